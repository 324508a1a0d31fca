/-
  Sheets: contracts as the laws use them; begun walked; SheetNone.
-/
import Derived.Test.YtgfdghhojnmaoaaSh3
namespace Go.Proofs.Ytgfdghhojnmaoaa
namespace Sht
open Go Go.SL Go.RowKit

def ofB (b : List UInt8) : List UInt8 := over (b.take 256) (List.replicate 256 0)
theorem ofB_length (b : List UInt8) : (ofB b).length = 256 := by unfold ofB; rw [over_length (by simp only [List.length_take, List.length_replicate]; omega), List.length_replicate]
theorem ofB_head (x : UInt8) (b : List UInt8) : (ofB (x :: b))[0]? = some x := by
  unfold ofB over
  rw [List.take_succ_cons]
  rfl
theorem zero_head : zero256[0]? = some 0 := by
  unfold zero256
  rw [List.getElem?_replicate, if_pos (by decide)]
theorem bytesV_head {l : List UInt8} {x : UInt8} (h : l[0]? = some x) : (bytesV l)[0 + (0 : Int).toNat * 1]? = some (.int .u8 (x.toNat : Int)) := by
  cases l with
  | nil => cases h
  | cons y ys => cases h; rfl
theorem of_spec (W0 : World) (L : List Seg) (a : Option Addr) (c : Nat) (b : List UInt8) (hr : ∀ s, Rd W0 (s :: L) a (bytesV b)) :
    FnS Try.prog W0 10 #[.slice a b.length c] L (fun e L' => ∃ bp, L' = [(bp, .row (bytesV (ofB b)) 5 256)] :: L ∧ e = .returned (.slice (some ⟨bp, 0, none⟩) 256 256)) := by
  refine FnS.of (args := [.slice a b.length c]) Try.func10 rfl rfl ?_
  refine C.seq ?_
  refine C.region ?_
  refine G.assignS rfl trivial rfl rfl rfl ?_
  refine G.nil ?_
  refine C.seq ?_
  refine C.region ?_
  refine G.makeBytes (l := 256) (c := 256) rfl trivial rfl rfl Try.underlying22 I5 rfl rfl (by decide) ?_
  intro b4
  refine G.assignS rfl trivial rfl rfl rfl ?_
  refine G.nil ?_
  refine C.seq ?_
  refine C.region ?_
  refine G.moveS rfl trivial rfl rfl rfl ?_
  refine G.moveS rfl trivial rfl rfl rfl ?_
  refine G.copyA (vs := bytesV (b.take 256)) .here rfl trivial rfl rfl Try.underlying22 I5 rfl rfl (by decide) (by simp; omega) (by rw [← bytesV_take]; exact (hr _).take) bytesV_ok (by simp only [bytesV_length, List.length_replicate, List.length_take]; omega) (bytesV (ofB b)) (by simp only [ofB, over, bytesV_append, List.take_zero, List.nil_append, Nat.zero_add, bytesV_length, bytesV_drop]) ?_
  refine G.nil ?_
  refine C.seq ?_
  refine C.region ?_
  refine G.moveS rfl trivial rfl rfl rfl ?_
  refine G.assignS rfl trivial rfl rfl rfl ?_
  refine G.nil ?_
  refine C.ret ?_
  -- end 
  exact ⟨rfl, _, Res.of (rs := [.tmp 2]) rfl rfl, b4, rfl, rfl⟩
theorem filterMap_one {β : Type} {f : Nat → Option β} {x : β} : ∀ {n t : Nat}, t < n → f t = some x → (∀ j, j < n → j ≠ t → f j = none) → (List.range n).filterMap f = [x]
  | 0, t, h, _, _ => by omega
  | n + 1, t, h, he, hno => by
    rw [List.range_succ, List.filterMap_append]
    by_cases e : t = n
    · subst e
      rw [List.filterMap_eq_nil_iff.2 fun j hj => hno j (by have := List.mem_range.1 hj; omega) (by have := List.mem_range.1 hj; omega)]
      simp [he]
    · rw [filterMap_one (t := t) (by omega) he fun j hj => hno j (by omega)]
      simp [hno n (by omega) (fun h => e h.symm)]
theorem chL_one {mg : Int → Option (List UInt8)} {R : Ans} {t : Nat} {x : Int × List UInt8} (h : t < 96) (hx : chg1 mg R (t : Int) = some x) (hno : ∀ j : Nat, j < 96 → j ≠ t → chg1 mg R (j : Int) = none) : chL mg R = [x] := filterMap_one h hx hno
theorem chL_nil {mg : Int → Option (List UInt8)} {R : Ans} (hno : ∀ j : Nat, j < 96 → chg1 mg R (j : Int) = none) : chL mg R = [] := by
  unfold chL
  exact List.filterMap_eq_nil_iff.2 fun j hj => hno j (List.mem_range.1 hj)
def noPages : List (Option Bpg) := List.replicate 96 none
theorem noPages_length : noPages.length = 96 := by unfold noPages; rw [List.length_replicate]
theorem noPages_slots : noPages.map bslot = List.replicate 96 nilS := by unfold noPages; rw [List.map_replicate]; rfl
theorem noPages_pool : bpool noPages = [] := by unfold bpool noPages; rw [List.filterMap_replicate]; rfl
theorem book_new (bb : Nat) (bad : Int) : BookIs bb noPages bad [(bb, .row (List.replicate 96 nilS ++ [.int .i64 bad]) 28 97)] := ⟨noPages_length, fun _ he => absurd (List.eq_of_mem_replicate he) (by simp), by rw [noPages_slots, noPages_pool]⟩
theorem noPages_R {no : Int} (h : 0 ≤ no ∧ no ≤ 95) (bad : Int) (hb : ¬ (bad ≠ 0 ∧ no = bad)) : bookR noPages bad no = .ok zero256 := by
  unfold bookR
  rw [if_neg (by omega), if_neg hb]
  have : noPages[no.toNat]! = none := by
    rw [getElem!_pos _ _ (by rw [noPages_length]; omega)]
    unfold noPages
    rw [List.getElem_replicate]
  rw [this]
/-- images of one's own, one of them -/
theorem ImsIs.one {v : Value} {x : Int × List UInt8} {s1 s2 : Seg} (h : ImsIs v [x] s1 s2) : ∃ b c k, c ≤ k ∧ x.2.length ≤ c ∧ OwnS v 1 (imC (x.1, b, c, k, x.2)) 40 2 s1 ∧ s2 = [(b, .row (bytesV x.2) 5 k)] := by
  obtain ⟨ims, h1, h2, h3, h4⟩ := h
  cases ims with
  | nil => cases h1
  | cons e es =>
    cases es with
    | cons _ _ => simp at h1
    | nil =>
      obtain ⟨no, b, c, k, xs⟩ := e
      have h5 : (no, xs) = x := by simpa [imP] using h1
      subst h5
      have := h2 _ (List.mem_singleton_self _)
      exact ⟨b, c, k, this.2, this.1, by simpa using h3, h4⟩
section sheet
variable (W0 : World) (bs : Nat)
theorem spage_val (L : List Seg) {mg : Int → Option (List UInt8)} {R : Ans} {S s : Seg} (h : ShIs W0 bs mg R S s) (no : Int) (hno : -9223372036854775808 ≤ no ∧ no ≤ 9223372036854775807) (xs : List UInt8) (hR : shR mg R no = .ok xs) (n : Nat) (hn : xs.length = n) :
    FnS Try.prog W0 13 #[ptr bs, .int .i64 no] (s :: L) (fun e L' => ∃ a c so, OwnS (.slice a n c) n (bytesV xs) 5 1 so ∧ L' = so :: s :: L ∧ e = .returned (.tuple #[.slice a n c, .int .i64 0])) := by
  subst hn
  have hpg := (sheet_src W0 bs h).page L no hno
  rw [hR] at hpg
  exact hpg
theorem spage_bad (L : List Seg) {mg : Int → Option (List UInt8)} {R : Ans} {S s : Seg} (h : ShIs W0 bs mg R S s) (no : Int) (hno : -9223372036854775808 ≤ no ∧ no ≤ 9223372036854775807) (c : Int) (hR : shR mg R no = .error c) :
    FnS Try.prog W0 13 #[ptr bs, .int .i64 no] (s :: L) (fun e L' => L' = s :: L ∧ e = .returned (.tuple #[nilS, .int .i64 c])) := by
  have hpg := (sheet_src W0 bs h).page L no hno
  rw [hR] at hpg
  exact hpg
/-- what lies below a sheet is asked itself -/
theorem inner_val (L : List Seg) {mg : Int → Option (List UInt8)} {R R' : Ans} {S s : Seg} (h : ShIs W0 bs mg R' S s) {t : TypeId} {f : FuncId} {x : Value} (hs : Src W0 t f x S R) (no : Int) (hno : -9223372036854775808 ≤ no ∧ no ≤ 9223372036854775807) (xs : List UInt8) (hR : R no = .ok xs) (n : Nat) (hn : xs.length = n) :
    FnS Try.prog W0 f #[x, .int .i64 no] (s :: L) (fun e L' => ∃ a c so, OwnS (.slice a n c) n (bytesV xs) 5 1 so ∧ L' = so :: s :: L ∧ e = .returned (.tuple #[.slice a n c, .int .i64 0])) := by
  subst hn
  obtain ⟨bm, pv, es, ck, hm, hb, rfl⟩ := h
  have hpg := hs.page (shS bs bm pv :: [(bm, mapO .i64 es ck)] :: L) no hno
  rw [hR] at hpg
  have hp : (((bs, SObj.row [pv, .map (some bm)] 58 2) :: (bm, mapO .i64 es ck) :: S) :: L).flatten.Perm (S :: shS bs bm pv :: [(bm, mapO .i64 es ck)] :: L).flatten :=
    (show (((bs, SObj.row [pv, .map (some bm)] 58 2) :: (bm, mapO .i64 es ck) :: S) :: L).flatten.Perm (shS bs bm pv :: [(bm, mapO .i64 es ck)] :: S :: L).flatten by simp).trans P3
  refine (hpg.perm hp).drop fun e L' ⟨a, c, so, h1, h2, h3⟩ => ⟨so :: ((bs, .row [pv, .map (some bm)] 58 2) :: (bm, mapO .i64 es ck) :: S) :: L, fun w hw => ?_, a, c, so, h1, rfl, h3⟩
  subst h2
  exact (hw.of_flat (L' := so :: shS bs bm pv :: [(bm, mapO .i64 es ck)] :: S :: L) (List.Perm.flatten ((List.perm_append_comm_assoc [S] [shS bs bm pv, [(bm, mapO .i64 es ck)]] L).cons so))).of_flat (by simp)
theorem inner_bad (L : List Seg) {mg : Int → Option (List UInt8)} {R R' : Ans} {S s : Seg} (h : ShIs W0 bs mg R' S s) {t : TypeId} {f : FuncId} {x : Value} (hs : Src W0 t f x S R) (no : Int) (hno : -9223372036854775808 ≤ no ∧ no ≤ 9223372036854775807) (c : Int) (hR : R no = .error c) :
    FnS Try.prog W0 f #[x, .int .i64 no] (s :: L) (fun e L' => L' = s :: L ∧ e = .returned (.tuple #[nilS, .int .i64 c])) := by
  obtain ⟨bm, pv, es, ck, hm, hb, rfl⟩ := h
  have hpg := hs.page (shS bs bm pv :: [(bm, mapO .i64 es ck)] :: L) no hno
  rw [hR] at hpg
  exact FnS.read hpg ((show (((bs, SObj.row [pv, .map (some bm)] 58 2) :: (bm, mapO .i64 es ck) :: S) :: L).flatten.Perm (shS bs bm pv :: [(bm, mapO .i64 es ck)] :: S :: L).flatten by simp).trans P3)
theorem sset_in (L : List Seg) {mg : Int → Option (List UInt8)} {R : Ans} {S s : Seg} (h : ShIs W0 bs mg R S s) (no : Int) (hno : 0 ≤ no ∧ no ≤ 95) (a : Option Addr) (c : Nat) (xs : List UInt8) (hx : xs.length = 256) (hr : Rd W0 L a (bytesV xs)) :
    FnS Try.prog W0 12 #[ptr bs, .int .i64 no, .slice a 256 c] (s :: L) (fun e L' => ∃ s', ShIs W0 bs (setM mg no xs) R S s' ∧ L' = s' :: L ∧ e = .returned (.int .i64 0)) := by
  have h1 := sset_spec W0 bs L mg R S s h no a c xs hr
  have h2 : setC no xs.length = 0 := by unfold setC; rw [if_neg (by omega), if_neg (by omega)]
  rw [h2, if_pos rfl, hx] at h1
  exact h1
theorem sset_no (L : List Seg) {mg : Int → Option (List UInt8)} {R : Ans} {S s : Seg} (h : ShIs W0 bs mg R S s) (no : Int) (a : Option Addr) (c : Nat) (xs : List UInt8) (n : Nat) (hn : xs.length = n) (r : Int) (hc : setC no n = r) (h0 : r ≠ 0) (hr : Rd W0 L a (bytesV xs)) :
    FnS Try.prog W0 12 #[ptr bs, .int .i64 no, .slice a n c] (s :: L) (fun e L' => ∃ s', ShIs W0 bs mg R S s' ∧ L' = s' :: L ∧ e = .returned (.int .i64 r)) := by
  subst hn
  have h1 := sset_spec W0 bs L mg R S s h no a c xs hr
  rw [hc, if_neg h0] at h1
  exact h1
theorem schanges_val (L : List Seg) {mg : Int → Option (List UInt8)} {R : Ans} {S s : Seg} (h : ShIs W0 bs mg R S s) (l : List (Int × List UInt8)) (hl : chL mg R = l) (n : Nat) (hn : l.length = n) :
    FnS Try.prog W0 16 #[ptr bs] (s :: L) (fun e L' => ∃ a c s1 s2, ImsIs (.slice a n c) l s1 s2 ∧ L' = s1 :: s2 :: s :: L ∧ e = .returned (.slice a n c)) := by
  subst hl
  subst hn
  exact schanges_spec W0 bs L h
theorem smust_val (L : List Seg) {mg : Int → Option (List UInt8)} {R : Ans} {S s : Seg} (h : ShIs W0 bs mg R S s) (no : Int) (hno : -9223372036854775808 ≤ no ∧ no ≤ 9223372036854775807) (xs : List UInt8) (hR : shR mg R no = .ok xs) (n : Nat) (hn : xs.length = n) :
    FnS Try.prog W0 17 #[ptr bs, .int .i64 no] (s :: L) (fun e L' => ∃ a c so, OwnS (.slice a n c) n (bytesV xs) 5 1 so ∧ L' = so :: s :: L ∧ e = .returned (.slice a n c)) := by
  subst hn
  exact smust_ok W0 bs L h no hno xs hR
end sheet
theorem chg1_set {mg : Int → Option (List UInt8)} {R : Ans} {no : Int} {b x : List UInt8} (hm : mg no = some b) (hR : R no = .ok x) (hne : x ≠ b) : chg1 mg R no = some (no, b) := by
  unfold chg1 ansIs
  rw [hm, hR]
  simp [hne]
theorem chg1_same {mg : Int → Option (List UInt8)} {R : Ans} {no : Int} {b : List UInt8} (hm : mg no = some b) (hR : R no = .ok b) : chg1 mg R no = none := by
  unfold chg1 ansIs
  rw [hm, hR]
  simp
theorem chg1_none {mg : Int → Option (List UInt8)} {R : Ans} {no : Int} (hm : mg no = none) : chg1 mg R no = none := by
  unfold chg1
  rw [hm]
abbrev mA : Int → Option (List UInt8) := setM (setM (fun _ => none) 5 (ofB [97])) 6 zero256
theorem ne_of_head {a b : List UInt8} {x y : UInt8} (ha : a[0]? = some x) (hb : b[0]? = some y) (h : x ≠ y) : a ≠ b := fun e => h (by rw [e, hb] at ha; exact (Option.some.inj ha).symm)
theorem mA_ch : chL mA (bookR noPages 0) = [(5, ofB [97])] := by
  refine chL_one (t := 5) (by decide) (chg1_set (by simp [setM]) (noPages_R (by decide) 0 (by simp)) (ne_of_head zero_head (ofB_head 97 []) (by decide))) fun j hj hne => ?_
  by_cases h6 : j = 6
  · subst h6
    exact chg1_same (by simp [setM]) (noPages_R (by decide) 0 (by simp))
  · have h5 : ¬ (j : Int) = 5 := by omega
    have h7 : ¬ (j : Int) = 6 := by omega
    exact chg1_none (by simp [setM, h5, h7])
theorem mA_5 : shR mA (bookR noPages 0) 5 = .ok (ofB [97]) := by unfold shR; rw [if_neg (by decide)]; simp [setM]
section laws
variable (W0 : World)
theorem sbegun_spec (L : List Seg) : FnS Try.prog W0 9 #[] L (fun e L' => L' = L ∧ e = .returned (.bool true)) := by
  refine FnS.of (args := []) Try.func9 rfl rfl ?_
  refine C.seq ?_
  refine C.region ?_
  refine G.assignB rfl trivial rfl rfl rfl ?_
  refine G.nil ?_
  refine C.seq ?_
  refine C.region ?_
  refine G.buildL (cs := List.replicate 96 nilS ++ [.int .i64 0]) rfl trivial rfl rfl Try.underlying28 I28 B28 rfl rfl ?_
  refine G.boxG rfl trivial rfl rfl rfl ?_
  intro b11
  refine G.assignP rfl trivial rfl rfl rfl ?_
  refine G.nil ?_
  refine C.seq ?_
  refine C.region ?_
  refine G.moveP rfl trivial rfl rfl rfl ?_
  refine G.makeInterface rfl trivial rfl rfl Try.underlying25 rfl ?_
  refine G.call E11 rfl rfl trivial rfl rfl (snew_spec W0 L (.iface 25 (ptr b11)) _ _ (.some (book_src W0 b11 (book_new b11 0)))) rfl ?_
  rintro e L2 ⟨bs, s1, h1, rfl, rfl⟩
  refine G.assignP rfl trivial rfl rfl rfl ?_
  refine G.nil ?_
  refine C.seq ?_
  refine C.seq ?_
  refine C.region ?_
  refine G.moveP rfl trivial rfl rfl rfl ?_
  refine G.ptrEq rfl trivial rfl rfl Try.underlying30 rfl rfl ?_
  refine G.nil ?_
  refine C.condF rfl ?_
  refine C.skip ?_
  refine C.seq ?_
  refine C.region ?_
  refine G.moveP rfl trivial rfl rfl rfl ?_
  refine G.buildSliceL (cs := [.int .u8 97]) (zs := [(.int .u8 0)]) rfl trivial rfl rfl Try.underlying22 I5 rfl (by kernel_rfl) rfl rfl ?_
  intro b18
  refine G.convSame (by first | exact .here | exact .next .here | exact .next (.next .here) | exact .next (.next (.next .here)) | exact .next (.next (.next (.next .here))) | exact .next (.next (.next (.next (.next .here)))) | exact .next (.next (.next (.next (.next (.next .here))))) | exact .next (.next (.next (.next (.next (.next (.next .here)))))) | exact .in1 | exact .next .in1 | exact .next (.next .in1) | exact .next (.next (.next .in1)) | exact .next (.next (.next (.next .in1))) | exact .in2 | exact .next .in2 | exact .next (.next .in2) | exact .next (.next (.next .in2)) | exact .next (.next (.next (.next .in2))) | exact .app .here | exact .app (.next .here) | exact .app (.next (.next .here)) | exact .app (.next (.next (.next .here))) | exact .app (.next (.next (.next (.next .here)))) | exact .app (.next (.next (.next (.next (.next .here))))) | exact .app (.next (.next (.next (.next (.next (.next .here)))))) | exact .app (.next (.next (.next (.next (.next (.next (.next .here))))))) | exact .app .in1 | exact .app .in2 | exact .app (.next .in1) | exact .next (.app .in1) | exact .next (.next (.app .in1)) | exact .next (.app .here) | exact .next (.next (.app .here)) | exact .next (.next (.next (.app .here))) | exact .next (.next (.next (.next (.app .here))))) rfl rfl trivial rfl rfl Try.underlying22 Try.underlying5 rfl ?_
  refine G.call E10 rfl rfl trivial rfl rfl (of_spec W0 _ (some ⟨b18, 0, none⟩) 1 [97] (fun s => Rd.row0 (.next .here))) rfl ?_
  rintro e L2 ⟨bp, rfl, rfl⟩
  refine G.call E12 rfl rfl trivial rfl rfl (FnS.perm (sset_in W0 bs ([(bp, .row (bytesV (ofB [97])) 5 256)] :: [(b18, .row [.int .u8 97] 5 1)] :: L) h1 5 (by decide) (some ⟨bp, 0, none⟩) 256 (ofB [97]) (ofB_length _) (Rd.row0 .here)) P3) rfl ?_
  rintro e L2 ⟨s2, h2, rfl, rfl⟩
  refine G.less (L' := s2 :: L) (fun _ h => h.fewer (by simp)) ?_
  refine G.assignI rfl trivial rfl rfl rfl ?_
  refine G.nil ?_
  refine C.seq ?_
  refine C.region ?_
  refine G.moveP rfl trivial rfl rfl rfl ?_
  refine G.makeBytes (l := 256) (c := 256) rfl trivial rfl rfl Try.underlying22 I5 rfl rfl (by decide) ?_
  intro b23
  refine G.call E12 rfl rfl trivial rfl rfl (FnS.perm (sset_in W0 bs ([(b23, .row (bytesV zero256) 5 256)] :: L) h2 6 (by decide) (some ⟨b23, 0, none⟩) 256 zero256 zero256_length (Rd.row0 .here)) P2) rfl ?_
  rintro e L2 ⟨s3, h3, rfl, rfl⟩
  refine G.less (L' := s3 :: L) (fun _ h => h.fewer (by simp)) ?_
  refine G.assignI rfl trivial rfl rfl rfl ?_
  refine G.nil ?_
  refine C.seq ?_
  refine C.region ?_
  refine G.moveP rfl trivial rfl rfl rfl ?_
  refine G.call E13 rfl rfl trivial rfl rfl (spage_val W0 bs L h3 5 (by decide) (ofB [97]) mA_5 256 (ofB_length _)) rfl ?_
  rintro e L2 ⟨a27, c27, s27, hv27, rfl, rfl⟩
  obtain ⟨bo, co, ko, hoe, rfl, _, _⟩ := hv27.block (by decide)
  cases hoe
  refine G.moveU rfl trivial rfl rfl rfl ?_
  refine G.extractL rfl trivial rfl rfl rfl rfl ?_
  refine G.extractL rfl trivial rfl rfl rfl rfl ?_
  refine G.assignS rfl trivial rfl rfl rfl ?_
  refine G.assignI rfl trivial rfl rfl rfl ?_
  refine G.nil ?_
  refine C.seq ?_
  refine C.region ?_
  refine G.moveP rfl trivial rfl rfl rfl ?_
  refine G.call E14 rfl rfl trivial rfl rfl (FnS.perm (inner_val W0 bs ([(bo, .row (bytesV (ofB [97])) 5 ko)] :: L) h3 (book_src W0 b11 (book_new b11 0)) 5 (by decide) zero256 (noPages_R (by decide) 0 (by simp)) 256 zero256_length) P2) rfl ?_
  rintro e L2 ⟨a32, c32, s32, hv32, rfl, rfl⟩
  obtain ⟨bz, cz, kz, hze, rfl, _, _⟩ := hv32.block (by decide)
  cases hze
  refine G.moveU rfl trivial rfl rfl rfl ?_
  refine G.extractL rfl trivial rfl rfl rfl rfl ?_
  refine G.extractL rfl trivial rfl rfl rfl rfl ?_
  refine G.assignS rfl trivial rfl rfl rfl ?_
  refine G.assignI rfl trivial rfl rfl rfl ?_
  refine G.nil ?_
  refine C.seq ?_
  refine C.region ?_
  refine G.moveP rfl trivial rfl rfl rfl ?_
  refine G.call E16 rfl rfl trivial rfl rfl (FnS.perm (schanges_val W0 bs ([(bz, .row (bytesV zero256) 5 kz)] :: [(bo, .row (bytesV (ofB [97])) 5 ko)] :: L) h3 _ mA_ch 1 rfl) P2) rfl ?_
  rintro e L2 ⟨a36, c36, s4, s5, hi36, rfl, rfl⟩
  obtain ⟨bi, ci, ki, hi1, hi2, hi3, rfl⟩ := hi36.one
  obtain ⟨bq, cq, kq, hqe, rfl, _, _⟩ := hi3.block (by decide)
  cases hqe
  refine G.assignS rfl trivial rfl rfl rfl ?_
  refine G.nil ?_
  refine C.seq ?_
  refine C.region ?_
  refine G.moveI rfl trivial rfl rfl rfl ?_
  refine G.bin rfl trivial rfl rfl rfl rfl rfl ?_
  refine G.moveB rfl trivial rfl rfl rfl ?_
  refine G.moveI rfl ⟨_, rfl, rfl, rfl⟩ rfl rfl rfl ?_
  refine G.bin rfl ⟨_, rfl, rfl, rfl⟩ rfl rfl rfl rfl rfl ?_
  first | refine G.pickT rfl trivial rfl rfl rfl rfl ?_ | refine G.pickF rfl trivial rfl rfl rfl rfl ?_
  refine G.moveB rfl trivial rfl rfl rfl ?_
  refine G.moveI rfl ⟨_, rfl, rfl, rfl⟩ rfl rfl rfl ?_
  refine G.bin rfl ⟨_, rfl, rfl, rfl⟩ rfl rfl rfl rfl rfl ?_
  first | refine G.pickT rfl trivial rfl rfl rfl rfl ?_ | refine G.pickF rfl trivial rfl rfl rfl rfl ?_
  refine G.moveB rfl trivial rfl rfl rfl ?_
  refine G.moveS rfl ⟨_, rfl, rfl, rfl⟩ rfl rfl rfl ?_
  refine G.indexAddr rfl ⟨_, rfl, rfl, rfl⟩ rfl rfl Try.underlying22 I5 rfl rfl (by decide) ?_
  refine G.loadAt (v := .int .u8 97) (.next (.next (.next (.next .here)))) rfl ⟨_, rfl, rfl, rfl⟩ rfl rfl Try.underlying5 rfl rfl (bytesV_head (ofB_head 97 [])) ?_
  refine G.bin rfl ⟨_, rfl, rfl, rfl⟩ rfl rfl rfl rfl rfl ?_
  first | refine G.pickT rfl trivial rfl rfl rfl rfl ?_ | refine G.pickF rfl trivial rfl rfl rfl rfl ?_
  refine G.moveB rfl trivial rfl rfl rfl ?_
  refine G.moveS rfl ⟨_, rfl, rfl, rfl⟩ rfl rfl rfl ?_
  refine G.indexAddr rfl ⟨_, rfl, rfl, rfl⟩ rfl rfl Try.underlying22 I5 rfl rfl (by decide) ?_
  refine G.loadAt (v := .int .u8 0) (.next (.next (.next .here))) rfl ⟨_, rfl, rfl, rfl⟩ rfl rfl Try.underlying5 rfl rfl (bytesV_head zero_head) ?_
  refine G.bin rfl ⟨_, rfl, rfl, rfl⟩ rfl rfl rfl rfl rfl ?_
  first | refine G.pickT rfl trivial rfl rfl rfl rfl ?_ | refine G.pickF rfl trivial rfl rfl rfl rfl ?_
  refine G.moveB rfl trivial rfl rfl rfl ?_
  refine G.moveS rfl ⟨_, rfl, rfl, rfl⟩ rfl rfl rfl ?_
  refine G.lenSlice rfl ⟨_, rfl, rfl, rfl⟩ rfl rfl Try.underlying38 rfl ?_
  refine G.bin rfl ⟨_, rfl, rfl, rfl⟩ rfl rfl rfl rfl rfl ?_
  first | refine G.pickT rfl trivial rfl rfl rfl rfl ?_ | refine G.pickF rfl trivial rfl rfl rfl rfl ?_
  refine G.moveB rfl trivial rfl rfl rfl ?_
  refine G.moveS rfl ⟨_, rfl, rfl, rfl⟩ rfl rfl rfl ?_
  refine G.indexAddr rfl ⟨_, rfl, rfl, rfl⟩ rfl rfl Try.underlying38 I40 rfl rfl (by decide) ?_
  refine G.fieldAddr rfl ⟨_, rfl, rfl, rfl⟩ rfl rfl Try.underlying40 rfl I3 rfl rfl ?_
  refine G.loadAt (v := .int .i64 5) .here rfl ⟨_, rfl, rfl, rfl⟩ rfl rfl Try.underlying3 rfl rfl rfl ?_
  refine G.bin rfl ⟨_, rfl, rfl, rfl⟩ rfl rfl rfl rfl rfl ?_
  first | refine G.pickT rfl trivial rfl rfl rfl rfl ?_ | refine G.pickF rfl trivial rfl rfl rfl rfl ?_
  refine G.moveB rfl trivial rfl rfl rfl ?_
  refine G.moveP rfl ⟨_, rfl, rfl, rfl⟩ rfl rfl rfl ?_
  refine G.call E12 rfl rfl ⟨_, rfl, rfl, rfl⟩ rfl rfl (FnS.perm (sset_no W0 bs _ h3 5 none 0 [] 0 rfl 1 (by decide) (by decide) Rd.nil) P3) rfl ?_
  rintro e L2 ⟨s6, h6, rfl, rfl⟩
  refine G.bin rfl ⟨_, rfl, rfl, rfl⟩ rfl rfl rfl rfl rfl ?_
  first | refine G.pickT rfl trivial rfl rfl rfl rfl ?_ | refine G.pickF rfl trivial rfl rfl rfl rfl ?_
  refine G.moveB rfl trivial rfl rfl rfl ?_
  refine G.moveP rfl ⟨_, rfl, rfl, rfl⟩ rfl rfl rfl ?_
  refine G.call E17 rfl rfl ⟨_, rfl, rfl, rfl⟩ rfl rfl (smust_val W0 bs _ h6 5 (by decide) (ofB [97]) mA_5 256 (ofB_length _)) rfl ?_
  rintro e L2 ⟨a78, c78, s78, hv78, rfl, rfl⟩
  obtain ⟨by8, cy, ky, hye, rfl, _, _⟩ := hv78.block (by decide)
  cases hye
  refine G.indexAddr rfl ⟨_, rfl, rfl, rfl⟩ rfl rfl Try.underlying22 I5 rfl rfl (by decide) ?_
  refine G.loadAt (v := .int .u8 97) .here rfl ⟨_, rfl, rfl, rfl⟩ rfl rfl Try.underlying5 rfl rfl (bytesV_head (ofB_head 97 [])) ?_
  refine G.bin rfl ⟨_, rfl, rfl, rfl⟩ rfl rfl rfl rfl rfl ?_
  first | refine G.pickT rfl trivial rfl rfl rfl rfl ?_ | refine G.pickF rfl trivial rfl rfl rfl rfl ?_
  refine G.assignB rfl trivial rfl rfl rfl ?_
  refine G.nil ?_
  refine C.less (fun _ h => h.tail.tail.tail.tail.tail.tail) ?_
  refine C.ret ?_
  -- end 
  exact ⟨rfl, _, Res.of (rs := [.tmp 0]) rfl rfl, rfl, rfl⟩
end laws
end Sht
end Go.Proofs.Ytgfdghhojnmaoaa
