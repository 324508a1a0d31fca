/-
  Sheets: one above the other; changes laid into a book; SheetTwo walked.
-/
import Derived.Test.YtgfdghhojnmaoaaSh11
namespace Go.Proofs.Ytgfdghhojnmaoaa
namespace Sht
open Go Go.SL Go.RowKit

/-- a sheet by itself, above what is told -/
def TopIs (bt : Nat) (pv : Value) (mg : Int → Option (List UInt8)) (hd : Seg) : Prop := ∃ bm es ck, MapIs es ck mg ∧ hd = (bt, .row [pv, .map (some bm)] 58 2) :: [(bm, mapO .i64 es ck)]
theorem top_sh {W0 : World} {bt : Nat} {pv : Value} {mg : Int → Option (List UInt8)} {hd S : Seg} {R : Ans} (h : TopIs bt pv mg hd) (hb : Below1 W0 pv S R) : ShIs W0 bt mg R S (hd ++ S) := by
  obtain ⟨bm, es, ck, hm, rfl⟩ := h
  exact ⟨bm, pv, es, ck, hm, hb, rfl⟩
def updG {β : Type} (v : List UInt8 → β) (g : Int → β) (l : List (Int × List UInt8)) : Int → β := l.foldl (fun g x k => if k = x.1 then v x.2 else g k) g
theorem updG_take {β : Type} (v : List UInt8 → β) (g : Int → β) {l : List (Int × List UInt8)} {i : Nat} (h : i < l.length) : updG v g (l.take (i + 1)) = fun k => if k = l[i].1 then v l[i].2 else updG v g (l.take i) k := by
  unfold updG
  rw [List.take_succ_eq_append_getElem h, List.foldl_append]
  rfl
theorem chg1_val {mg : Int → Option (List UInt8)} {R : Ans} {no : Int} {x : Int × List UInt8} (h : chg1 mg R no = some x) : x.1 = no ∧ mg no = some x.2 := by
  unfold chg1 at h
  split at h
  · cases h
  · rename_i b hb
    split at h
    · cases h
    · cases h; exact ⟨rfl, hb⟩
theorem chg1_in {mg : Int → Option (List UInt8)} {R : Ans} {no : Int} {b : List UInt8} (hm : mg no = some b) (h : chg1 mg R no = none) : R no = .ok b := by
  unfold chg1 ansIs at h
  rw [hm] at h
  cases hR : R no with
  | ok x => rw [hR] at h; simp at h; rw [h]
  | error c => rw [hR] at h; simp at h
theorem updG_chK {β : Type} (v : List UInt8 → β) (g : Int → β) (mg : Int → Option (List UInt8)) (R : Ans) : ∀ (n : Nat) (k : Int), updG v g (chK mg R n) k = if 0 ≤ k ∧ k < (n : Int) then (match chg1 mg R k with | some x => v x.2 | none => g k) else g k
  | 0, k => by rw [if_neg (by omega)]; rfl
  | n + 1, k => by
    rw [chK_succ]
    have ih := updG_chK v g mg R n
    unfold updG at ih ⊢
    rw [List.foldl_append]
    cases hc : chg1 mg R (n : Int) with
    | none =>
      show List.foldl _ g (chK mg R n) k = _
      rw [ih k]
      by_cases hk : k = (n : Int)
      · subst hk; rw [if_neg (by omega), if_pos (by omega), hc]
      · by_cases h2 : 0 ≤ k ∧ k < (n : Int)
        · rw [if_pos h2, if_pos (by omega)]
        · rw [if_neg h2, if_neg (by omega)]
    | some x =>
      have h1 := (chg1_val hc).1
      show (if k = x.1 then v x.2 else List.foldl _ g (chK mg R n) k) = _
      rw [h1, ih k]
      by_cases hk : k = (n : Int)
      · subst hk; rw [if_pos rfl, if_pos (by omega), hc]
      · rw [if_neg hk]
        by_cases h2 : 0 ≤ k ∧ k < (n : Int)
        · rw [if_pos h2, if_pos (by omega)]
        · rw [if_neg h2, if_neg (by omega)]
theorem chK_mem {mg : Int → Option (List UInt8)} {R : Ans} {n : Nat} {x : Int × List UInt8} (h : x ∈ chK mg R n) : 0 ≤ x.1 ∧ x.1 < (n : Int) ∧ mg x.1 = some x.2 := by
  unfold chK at h
  obtain ⟨j, hj, hx⟩ := List.mem_filterMap.1 h
  obtain ⟨h1, h2⟩ := chg1_val hx
  have := List.mem_range.1 hj
  rw [h1]
  exact ⟨by omega, by omega, h2⟩
theorem chK_up (mg : Int → Option (List UInt8)) (R : Ans) : ∀ n, (chK mg R n).Pairwise (fun x y => x.1 < y.1)
  | 0 => List.Pairwise.nil
  | n + 1 => by
    rw [chK_succ, List.pairwise_append]
    refine ⟨chK_up mg R n, ?_, fun x hx y hy => ?_⟩
    · cases chg1 mg R (n : Int) <;> simp
    · have h1 := (chK_mem hx).2.1
      cases hc : chg1 mg R (n : Int) with
      | none => rw [hc] at hy; cases hy
      | some z =>
        rw [hc] at hy
        obtain rfl := List.mem_singleton.1 hy
        have h2 := (chg1_val hc).1
        omega
theorem shR_ne {mg : Int → Option (List UInt8)} {R : Ans} {no : Int} (h : 0 ≤ no ∧ no ≤ 95) (hm : mg no = none) : shR mg R no = R no := by unfold shR; rw [if_neg (by omega), hm]
/-- the changes of the upper one, laid into the lower one, are all -/
theorem two_law (mT mS mS2 : Int → Option (List UInt8)) (Rb R2 : Ans) (h1 : mS2 = updG some mS (chL mT (shR mS Rb))) (h2 : R2 = updG .ok Rb (chL mS2 Rb)) :
    chL mT (shR mS2 Rb) = [] ∧ ∀ k, 0 ≤ k ∧ k ≤ 95 → shR mT (shR mS2 R2) k = R2 k := by
  have e1 : ∀ k, 0 ≤ k ∧ k ≤ 95 → mS2 k = match chg1 mT (shR mS Rb) k with | some x => some x.2 | none => mS k := fun k hk => by
    rw [h1]; show updG some mS (chK mT (shR mS Rb) 96) k = _; rw [updG_chK, if_pos (by omega)]
  have e2 : ∀ k, 0 ≤ k ∧ k ≤ 95 → R2 k = match chg1 mS2 Rb k with | some x => .ok x.2 | none => Rb k := fun k hk => by
    rw [h2]; show updG .ok Rb (chK mS2 Rb 96) k = _; rw [updG_chK, if_pos (by omega)]
  have f1 : ∀ k, 0 ≤ k ∧ k ≤ 95 → ∀ b, mT k = some b → shR mS2 Rb k = .ok b := fun k hk b hb => by
    have e := e1 k hk
    cases hc : chg1 mT (shR mS Rb) k with
    | some x =>
      rw [hc] at e
      have h3 := (chg1_val hc).2
      rw [hb] at h3
      obtain rfl := Option.some.inj h3
      exact shR_in hk e
    | none =>
      rw [hc] at e
      have h3 := chg1_in hb hc
      cases hS : mS k with
      | some y => rw [shR_in hk hS] at h3; rw [shR_in hk (e.trans hS)]; exact h3
      | none => rw [shR_ne hk hS] at h3; rw [shR_ne hk (e.trans hS)]; exact h3
  have f2 : ∀ k, 0 ≤ k ∧ k ≤ 95 → R2 k = shR mS2 Rb k := fun k hk => by
    have e := e2 k hk
    cases hS : mS2 k with
    | none => rw [chg1_none hS] at e; rw [shR_ne hk hS]; exact e
    | some b =>
      rw [shR_in hk hS]
      cases hc : chg1 mS2 Rb k with
      | some x =>
        rw [hc] at e
        have h3 := (chg1_val hc).2
        rw [hS] at h3
        obtain rfl := Option.some.inj h3
        exact e
      | none => rw [hc] at e; rw [e]; exact chg1_in hS hc
  refine ⟨chL_nil fun j hj => ?_, fun k hk => ?_⟩
  · cases hb : mT (j : Int) with
    | none => exact chg1_none hb
    | some b => exact chg1_same hb (f1 j (by omega) b hb)
  · cases hb : mT k with
    | some b => rw [shR_in hk hb, f2 k hk, f1 k hk b hb]
    | none =>
      rw [shR_ne hk hb]
      cases hS : mS2 k with
      | some b => rw [shR_in hk hS, f2 k hk, shR_in hk hS]
      | none => rw [shR_ne hk hS]
theorem book_ok {ps : List (Option Bpg)} {k : Int} (h : 0 ≤ k ∧ k ≤ 95) : ∃ ys, bookR ps 0 k = .ok ys := by
  unfold bookR
  rw [if_neg (by omega), if_neg (by simp)]
  split
  · exact ⟨_, rfl⟩
  · exact ⟨_, rfl⟩
theorem ansC_ok {A : Except Int (List UInt8)} (h : ∃ ys, A = .ok ys) : ansC A = 0 := by
  obtain ⟨ys, rfl⟩ := h
  rfl
section tops
variable (W0 : World)
theorem tnew_spec (L : List Seg) (t : TypeId) (b : Nat) :
    FnS Try.prog W0 11 #[.iface t (ptr b)] L (fun e L' => ∃ bt hd, TopIs bt (.iface t (ptr b)) (fun _ => none) hd ∧ L' = hd :: L ∧ e = .returned (ptr bt)) := by
  refine FnS.of (args := [.iface t (ptr b)]) Try.func11 rfl rfl ?_
  refine C.seq ?_
  refine C.region ?_
  refine G.assignP rfl trivial rfl rfl rfl ?_
  refine G.nil ?_
  refine C.seq ?_
  refine C.region ?_
  refine G.move (.iface t (ptr b)) rfl trivial rfl rfl rfl ?_
  refine G.makeMap (kd := .i64) rfl trivial rfl rfl ?_
  intro bm
  refine G.buildL (cs := [.iface t (ptr b), .map (some bm)]) rfl trivial rfl rfl Try.underlying58 I58 B58 rfl rfl ?_
  refine G.boxG rfl trivial rfl rfl rfl ?_
  intro bt
  refine G.assignP rfl trivial rfl rfl rfl ?_
  refine G.nil ?_
  refine C.less (L' := ((bt, .row [.iface t (ptr b), .map (some bm)] 58 2) :: [(bm, mapO .i64 [] 0)]) :: L) (fun _ h => h.of_flat (by simp)) ?_
  refine C.ret ?_
  -- end 
  exact ⟨rfl, _, Res.of (rs := [.tmp 2]) rfl rfl, bt, _, ⟨bm, [], 0, MapIs.empty, rfl⟩, rfl, rfl⟩
theorem tset_spec (bs : Nat) (pv : Value) (L : List Seg) (mg : Int → Option (List UInt8)) (hd : Seg) (h : TopIs bs pv mg hd) (no : Int) (a : Option Addr) (c : Nat) (xs : List UInt8) (hr : Rd W0 L a (bytesV xs)) :
    FnS Try.prog W0 12 #[ptr bs, .int .i64 no, .slice a xs.length c] (hd :: L) (fun e L' => ∃ hd', TopIs bs pv (if setC no xs.length = 0 then setM mg no xs else mg) hd' ∧ L' = hd' :: L ∧ e = .returned (.int .i64 (setC no xs.length))) := by
  have hh := h
  obtain ⟨bm, es, ck, hm, rfl⟩ := h
  refine FnS.perm (L' := shS bs bm pv :: [(bm, mapO .i64 es ck)] :: L) ?_ (by simp)
  refine FnS.of (args := [ptr bs, .int .i64 no, .slice a xs.length c]) Try.func12 rfl rfl ?_
  refine C.seq ?_
  refine C.region ?_
  refine G.assignI rfl trivial rfl rfl rfl ?_
  refine G.nil ?_
  refine C.seq ?_
  refine C.seq ?_
  refine C.region ?_
  refine G.moveP rfl trivial rfl rfl rfl ?_
  refine G.moveI rfl trivial rfl rfl rfl ?_
  refine G.call E24 rfl rfl trivial rfl rfl (smay_spec W0 bs _ no) rfl ?_
  rintro e L2 ⟨rfl, rfl⟩
  refine G.assignI rfl trivial rfl rfl rfl ?_
  refine G.nil ?_
  refine C.seq ?_
  refine C.region ?_
  refine G.moveI rfl trivial rfl rfl rfl ?_
  by_cases hin : no < 0 ∨ 95 < no
  ·
    rw [if_pos hin]
    refine G.bin rfl trivial rfl rfl rfl rfl rfl ?_
    refine G.nil ?_
    refine C.yes rfl (by decide) ?_
    refine C.seq ?_
    refine C.region ?_
    refine G.moveI rfl trivial rfl rfl rfl ?_
    refine G.assignI rfl trivial rfl rfl rfl ?_
    refine G.nil ?_
    refine C.less (L' := ((bs, .row [pv, .map (some bm)] 58 2) :: [(bm, mapO .i64 es ck)]) :: L) (fun _ h => h.of_flat (by simp)) ?_
    refine C.ret ?_
    -- end x12T
    have hc : setC no xs.length = 3 := by unfold setC; rw [if_pos hin]
    rw [hc, if_neg (by decide)]
    exact ⟨rfl, _, Res.of (rs := [.tmp 6]) rfl rfl, _, hh, rfl, rfl⟩
  ·
    rw [if_neg hin]
    refine G.bin rfl trivial rfl rfl rfl rfl rfl ?_
    refine G.nil ?_
    refine C.no rfl (by decide) ?_
    refine C.skip ?_
    refine C.seq ?_
    refine C.seq ?_
    refine C.region ?_
    refine G.moveS rfl trivial rfl rfl rfl ?_
    refine G.lenSlice rfl trivial rfl rfl Try.underlying22 rfl ?_
    refine G.bin rfl trivial rfl rfl rfl rfl rfl ?_
    refine G.nil ?_
    refine C.cond _ rfl ?_ ?_
    · intro hc1
      refine C.seq ?_
      refine C.region ?_
      refine G.assignI rfl trivial rfl rfl rfl ?_
      refine G.nil ?_
      refine C.less (L' := ((bs, .row [pv, .map (some bm)] 58 2) :: [(bm, mapO .i64 es ck)]) :: L) (fun _ h => h.of_flat (by simp)) ?_
      refine C.ret ?_
      -- end x12Fc1T
      have hc : setC no xs.length = 1 := by unfold setC; rw [if_neg hin, if_pos (by omega)]
      rw [hc, if_neg (by decide)]
      exact ⟨rfl, _, Res.of (rs := [.tmp 6]) rfl rfl, _, hh, rfl, rfl⟩
    · intro hc1
      refine C.skip ?_
      refine C.seq ?_
      refine C.drawn mixed (_) [7] (fun _ h => h) ?_
      refine GA.pure (i := 0) (fun _ _ _ _ _ h => h) rfl (by kernel_rfl) trivial rfl rfl (Y.moveP rfl rfl) (#[true, false, false, false, false, false, false, false]) (by kernel_rfl) ?_
      first | refine GA.pure (i := 1) (fun _ _ _ _ _ h => h) rfl (by kernel_rfl) trivial rfl rfl (Y.nilCheckP rfl rfl) (#[true, true, false, false, false, false, false, false]) (by kernel_rfl) ?_ | refine GA.pure (i := 1) (fun _ _ _ _ _ h => h) rfl (by kernel_rfl) trivial rfl rfl (Y.nilCheckF rfl rfl) (#[true, true, false, false, false, false, false, false]) (by kernel_rfl) ?_
      refine GA.pure (i := 2) (fun _ _ _ _ _ h => h) rfl (by kernel_rfl) trivial rfl rfl (Y.fieldAddr rfl Try.underlying58 rfl I56 rfl rfl) (#[true, true, true, false, false, false, false, false]) (by kernel_rfl) ?_
      refine GA.read (i := 3) (fun _ _ _ _ _ h => h) rfl (by kernel_rfl) (by kernel_rfl) trivial rfl rfl (Y.loadAt (v := .map (some bm)) .here rfl Try.underlying56 rfl rfl rfl) (#[true, true, true, true, false, false, false, false]) (by kernel_rfl) ?_
      refine GA.pure (i := 4) (fun _ _ _ _ _ h => h) rfl (by kernel_rfl) trivial rfl rfl (Y.moveI rfl rfl) (#[true, true, true, true, true, false, false, false]) (by kernel_rfl) ?_
      refine GA.pure (i := 5) (fun _ _ _ _ _ h => h) rfl (by kernel_rfl) trivial rfl rfl (Y.moveS rfl rfl) (#[true, true, true, true, true, true, false, false]) (by kernel_rfl) ?_
      refine GA.read (i := 6) (fun _ _ _ _ _ h => h) rfl (by kernel_rfl) (by kernel_rfl) trivial rfl rfl (Y.bytesStr xs rfl Try.underlying22 Try.underlying5 Try.underlying9 rfl rfl hr.cons.cons) (#[true, true, true, true, true, true, true, false]) (by kernel_rfl) ?_
      refine GA.one (i := 7) rfl (by kernel_rfl) (#[true, true, true, true, true, true, true, true]) (by kernel_rfl) ?_
      refine G.mapUpdate (v := .string (strB xs)) (.next .here) rfl trivial rfl Try.underlying56 Try.underlying3 rfl rfl rfl ?_
      refine G.nil ?_
      refine ⟨fun _ h => absurd h (by simp [hit]), ?_⟩
      refine GA.done (by kernel_rfl) ?_
      refine C.seq ?_
      refine C.region ?_
      refine G.assignI rfl trivial rfl rfl rfl ?_
      refine G.nil ?_
      refine C.less (L' := ((bs, .row [pv, .map (some bm)] 58 2) :: [(bm, mapO .i64 (mput es ck no (.string (strB xs))).1 (mput es ck no (.string (strB xs))).2)]) :: L) (fun _ h => h.of_flat (by simp)) ?_
      refine C.ret ?_
      -- end x12Fc1F
      have hc : setC no xs.length = 0 := by unfold setC; rw [if_neg hin, if_neg (by omega)]
      rw [hc, if_pos rfl]
      exact ⟨rfl, _, Res.of (rs := [.tmp 6]) rfl rfl, _, ⟨bm, _, _, hm.put (by omega) (by omega), rfl⟩, rfl, rfl⟩
theorem short_spec (L : List Seg) (a : Option Addr) (c : Nat) (xs : List UInt8) (hc : xs.length ≤ c) (hm : c ≤ maxLen) :
    FnS Try.prog W0 18 #[.slice a xs.length c] L (fun e L' => L' = L ∧ e = .returned (.slice a (xs.take 256).length c)) := by
  have hmax : maxLen ≤ 9223372036854775807 := by decide
  refine FnS.of (args := [.slice a xs.length c]) Try.func18 rfl rfl ?_
  refine C.seq ?_
  refine C.region ?_
  refine G.assignS rfl trivial rfl rfl rfl ?_
  refine G.nil ?_
  refine C.seq ?_
  refine C.seq ?_
  refine C.region ?_
  refine G.moveS rfl trivial rfl rfl rfl ?_
  refine G.lenSlice rfl trivial rfl rfl Try.underlying22 rfl ?_
  refine G.bin rfl trivial rfl rfl rfl rfl rfl ?_
  refine G.nil ?_
  refine C.cond _ rfl ?_ ?_
  · intro hc0
    refine C.seq ?_
    refine C.region ?_
    refine G.moveS rfl trivial rfl rfl rfl ?_
    refine G.sliceH rfl trivial rfl rfl Try.underlying22 I5 rfl rfl (by omega) ?_
    refine G.assignS rfl trivial rfl rfl rfl ?_
    refine G.nil ?_
    refine C.ret ?_
    -- end c0T
    exact ⟨rfl, _, Res.of (rs := [.tmp 2]) rfl rfl, rfl, by rw [List.length_take, Nat.min_eq_left (by omega)]; rfl⟩
  · intro hc0
    refine C.skip ?_
    refine C.seq ?_
    refine C.region ?_
    refine G.moveS rfl trivial rfl rfl rfl ?_
    refine G.assignS rfl trivial rfl rfl rfl ?_
    refine G.nil ?_
    refine C.ret ?_
    -- end c0F
    exact ⟨rfl, _, Res.of (rs := [.tmp 2]) rfl rfl, rfl, by rw [List.take_of_length_le (by omega)]; rfl⟩
theorem lay_spec (bb : Nat) (L : List Seg) (a : Option Addr) (c n : Nat) (ims : List Im) (hn : ims.length = n) (hn2 : n ≤ 1000000) (hx : Rd W0 L a (ims.flatMap imC)) (hxb : ∀ e ∈ ims, Rd W0 L (some ⟨e.2.1, 0, none⟩) (bytesV e.2.2.2.2)) (hrg : ∀ e ∈ ims, (0 ≤ e.1 ∧ e.1 ≤ 95) ∧ e.2.2.2.2.length = 256) (ps : List (Option Bpg)) (hb : BookIs bb ps 0 (bookSeg bb ps 0)) :
    FnS Try.prog W0 19 #[ptr bb, .slice a n c] (bookSeg bb ps 0 :: L) (fun e L' => ∃ ps', BookIs bb ps' 0 (bookSeg bb ps' 0) ∧ bookR ps' 0 = updG .ok (bookR ps 0) (ims.map imP) ∧ L' = bookSeg bb ps' 0 :: L ∧ e = .returned (.tuple #[])) := by
  subst hn
  refine FnS.of (args := [ptr bb, .slice a ims.length c]) Try.func19 rfl rfl ?_
  refine C.seq ?_
  refine C.region ?_
  refine G.assignI rfl trivial rfl rfl rfl ?_
  refine G.nil ?_
  refine C.block ?_
  refine C.loop (fun m F D' L' => ∃ (i : Nat) (ps2 : List (Option Bpg)), m = ims.length - i + 0 ∧ i ≤ ims.length ∧ BookIs bb ps2 0 (bookSeg bb ps2 0) ∧ bookR ps2 0 = updG .ok (bookR ps 0) ((ims.map imP).take i) ∧ F 0 = ptr bb ∧ F 1 = .slice a ims.length c ∧ F 4 = .int .i64 (i : Int) ∧ D' = [] ∧ bookSeg bb ps2 0 :: L = L') ⟨_, ⟨0, ps, rfl, Nat.zero_le _, hb, rfl, rfl, rfl, rfl, rfl, rfl⟩⟩ ?_
  rintro m F D' L' ⟨i, ps2, rfl, hi, hb2, hR2, h0, h1, h4, rfl, rfl⟩
  refine C.fix (d := 0) h0 ?_
  refine C.fix (d := 1) h1 ?_
  refine C.fix (d := 4) h4 ?_
  refine C.seq ?_
  refine C.seq ?_
  refine C.region ?_
  refine G.moveI rfl trivial rfl rfl rfl ?_
  refine G.moveS rfl trivial rfl rfl rfl ?_
  refine G.lenSlice rfl trivial rfl rfl Try.underlying38 rfl ?_
  refine G.bin rfl trivial rfl rfl rfl rfl rfl ?_
  refine G.nil ?_
  refine C.cond _ rfl ?_ ?_
  · intro hc0
    have hlt : i < ims.length := by omega
    obtain ⟨p, o, rfl, _⟩ := hx.some_ (by rw [chunk_length (k := 2) (fun _ _ => rfl)]; omega)
    have hce := fun w hm => Rd.chunkL (k := 2) hx (fun _ _ => rfl) hlt w hm
    have hb1 := hxb _ (List.getElem_mem hlt)
    obtain ⟨hrr, hrl⟩ := hrg _ (List.getElem_mem hlt)
    have hut := updG_take (Except.ok : List UInt8 → Except Int (List UInt8)) (bookR ps 0) (l := ims.map imP) (i := i) (by simpa using hlt)
    rw [show (ims.map imP)[i]'(by simpa using hlt) = imP ims[i] by simp] at hut
    generalize ims[i] = e1 at hce hb1 hrr hrl hut
    obtain ⟨n1, b1, r1, k1, x1⟩ := e1
    simp only [imP] at hb1 hrr hrl hut
    refine C.skip ?_
    refine C.seq ?_
    refine C.block ?_
    refine C.drawn mixed (L) [] (fun _ h => h.tail) ?_
    refine GA.pure (i := 0) (fun _ _ _ _ _ h => h) rfl (by kernel_rfl) trivial rfl rfl (Y.moveP rfl rfl) (#[true, false, false, false, false, false, false, false, false, false, false, false, false, false, false, false]) (by kernel_rfl) ?_
    refine GA.pure (i := 1) (fun _ _ _ _ _ h => h) rfl (by kernel_rfl) trivial rfl rfl (Y.moveS rfl rfl) (#[true, true, false, false, false, false, false, false, false, false, false, false, false, false, false, false]) (by kernel_rfl) ?_
    refine GA.pure (i := 2) (fun _ _ _ _ _ h => h) rfl (by kernel_rfl) trivial rfl rfl (Y.moveI rfl rfl) (#[true, true, true, false, false, false, false, false, false, false, false, false, false, false, false, false]) (by kernel_rfl) ?_
    refine GA.pure (i := 3) (fun _ _ _ _ _ h => h) rfl (by kernel_rfl) trivial rfl rfl (Y.indexAddr rfl Try.underlying38 I40 rfl rfl (by omega)) (#[true, true, true, true, false, false, false, false, false, false, false, false, false, false, false, false]) (by kernel_rfl) ?_
    refine GA.pure (i := 4) (fun _ _ _ _ _ h => h) rfl (by kernel_rfl) trivial rfl rfl (Y.fieldAddr rfl Try.underlying40 rfl I3 rfl rfl) (#[true, true, true, true, true, false, false, false, false, false, false, false, false, false, false, false]) (by kernel_rfl) ?_
    refine GA.read (i := 5) (fun _ _ _ _ _ h => h) rfl (by kernel_rfl) (by kernel_rfl) trivial rfl rfl (Y.load rfl Try.underlying3 rfl rfl (fun w hm => hce w hm 0 _ rfl)) (#[true, true, true, true, true, true, false, false, false, false, false, false, false, false, false, false]) (by kernel_rfl) ?_
    refine GA.fix (d := 16) (v := .int .i64 n1) rfl ?_
    refine GA.pure (i := 6) (fun _ _ _ _ _ h => h) rfl (by kernel_rfl) trivial rfl rfl (Y.moveS rfl rfl) (#[true, true, true, true, true, true, true, false, false, false, false, false, false, false, false, false]) (by kernel_rfl) ?_
    refine GA.pure (i := 7) (fun _ _ _ _ _ h => h) rfl (by kernel_rfl) trivial rfl rfl (Y.moveI rfl rfl) (#[true, true, true, true, true, true, true, true, false, false, false, false, false, false, false, false]) (by kernel_rfl) ?_
    refine GA.pure (i := 8) (fun _ _ _ _ _ h => h) rfl (by kernel_rfl) trivial rfl rfl (Y.indexAddr rfl Try.underlying38 I40 rfl rfl (by omega)) (#[true, true, true, true, true, true, true, true, true, false, false, false, false, false, false, false]) (by kernel_rfl) ?_
    refine GA.pure (i := 9) (fun _ _ _ _ _ h => h) rfl (by kernel_rfl) trivial rfl rfl (Y.fieldAddr rfl Try.underlying40 rfl I22 rfl rfl) (#[true, true, true, true, true, true, true, true, true, true, false, false, false, false, false, false]) (by kernel_rfl) ?_
    refine GA.read (i := 10) (fun _ _ _ _ _ h => h) rfl (by kernel_rfl) (by kernel_rfl) trivial rfl rfl (Y.load rfl Try.underlying22 rfl rfl (fun w hm => hce w hm 1 _ rfl)) (#[true, true, true, true, true, true, true, true, true, true, true, false, false, false, false, false]) (by kernel_rfl) ?_
    refine GA.fix (d := 21) (v := .slice (some ⟨b1, 0, none⟩) x1.length r1) rfl ?_
    first | refine GA.pure (i := 12) (fun _ _ _ _ _ h => h) rfl (by kernel_rfl) trivial rfl rfl (Y.nilCheckP rfl rfl) (#[true, true, true, true, true, true, true, true, true, true, true, false, true, false, false, false]) (by kernel_rfl) ?_ | refine GA.pure (i := 12) (fun _ _ _ _ _ h => h) rfl (by kernel_rfl) trivial rfl rfl (Y.nilCheckF rfl rfl) (#[true, true, true, true, true, true, true, true, true, true, true, false, true, false, false, false]) (by kernel_rfl) ?_
    refine GA.pure (i := 13) (fun _ _ _ _ _ h => h) rfl (by kernel_rfl) trivial rfl rfl (Y.fieldAddr rfl Try.underlying28 rfl I26 rfl rfl) (#[true, true, true, true, true, true, true, true, true, true, true, false, true, true, false, false]) (by kernel_rfl) ?_
    refine GA.one (i := 11) rfl (by kernel_rfl) (#[true, true, true, true, true, true, true, true, true, true, true, true, true, true, false, false]) (by kernel_rfl) ?_
    refine G.appendNil rfl trivial rfl rfl Try.underlying22 Try.underlying22 I5 rfl (by decide) rfl (by decide) hb1.cons (by simp) bytesV_ok (by omega) ?_
    intro v22 s22 hv22
    obtain ⟨bq, cq, kq, rfl, rfl, hq1, hq2⟩ := hv22.block (by omega)
    refine G.nil ?_
    refine ⟨fun _ _ h => h.tail.tail, ?_⟩
    refine GA.pure (i := 14) (fun _ _ _ _ _ h => h) rfl (by kernel_rfl) trivial rfl rfl (Y.indexAddrArr rfl Try.underlying26 I22 rfl rfl (by omega)) (#[true, true, true, true, true, true, true, true, true, true, true, true, true, true, true, false]) (by kernel_rfl) ?_
    refine GA.one (i := 15) rfl (by kernel_rfl) (#[true, true, true, true, true, true, true, true, true, true, true, true, true, true, true, true]) (by kernel_rfl) ?_
    refine G.store (v := .slice (some ⟨bq, 0, none⟩) x1.length cq) (.next .here) rfl trivial rfl I22 rfl rfl rfl (by have := hb2.1; simp; omega) ((ps2.map bslot ++ [Value.int .i64 0]).set n1.toNat (bslot (some (bq, cq, kq, x1)))) (by simp [bslot]) ?_
    refine G.less (L' := bookSeg bb (ps2.set n1.toNat (some (bq, cq, kq, x1))) 0 :: L) (fun _ h => book_put hb2.1 (by omega) (bq, cq, kq, x1) h) ?_
    refine G.nil ?_
    refine ⟨fun _ _ h => h.tail, ?_⟩
    refine GA.done (by kernel_rfl) ?_
    refine C.region ?_
    refine G.moveI rfl trivial rfl rfl rfl ?_
    refine G.addN (j := 1) rfl trivial rfl rfl rfl rfl (by omega) ?_
    refine G.assignI rfl trivial rfl rfl rfl ?_
    refine G.nil ?_
    refine ⟨ims.length - (i + 1) + 0, by omega, i + 1, _, rfl, by omega, ⟨by rw [List.length_set]; exact hb2.1, book_caps hb2.2.1 _ ⟨(by show x1.length ≤ cq; omega), (by show cq ≤ kq; omega), (by show x1.length ≤ _; omega)⟩, rfl⟩, ?_, rfl, rfl, rfl, rfl, rfl⟩
    funext no
    rw [book_set_R hb2.1 (by omega), hut, hR2]
    rw [show ((n1.toNat : Nat) : Int) = n1 by omega]
    by_cases hq : no = n1
    · rw [if_pos ⟨hq, by simp⟩]
      exact (if_pos hq).symm
    · rw [if_neg (fun h => hq h.1)]
      exact (if_neg hq).symm
  · intro hc0
    obtain rfl : i = ims.length := by omega
    rw [List.take_of_length_le (by simp)] at hR2
    refine C.exit ?_
    -- end c0F
    exact ⟨rfl, _, Res.of (rs := []) rfl rfl, ps2, hb2, hR2, rfl, rfl⟩
theorem may_spec (L : List Seg) (a : Option Addr) (c n : Nat) (ims : List Im) (hn : ims.length = n) (hn2 : n ≤ 96) (hx : Rd W0 L a (ims.flatMap imC)) (hrg : ∀ e ∈ ims, (0 ≤ e.1 ∧ e.1 ≤ 95) ∧ e.2.2.2.2.length = 256) (hup : (ims.map imP).Pairwise (fun x y => x.1 < y.1)) :
    FnS Try.prog W0 20 #[.slice a n c] L (fun e L' => L' = L ∧ e = .returned (.bool (decide (1 ≤ n)))) := by
  subst hn
  refine FnS.of (args := [.slice a ims.length c]) Try.func20 rfl rfl ?_
  refine C.seq ?_
  refine C.region ?_
  refine G.assignB rfl trivial rfl rfl rfl ?_
  refine G.nil ?_
  refine C.seq ?_
  refine C.seq ?_
  refine C.region ?_
  refine G.assignI rfl trivial rfl rfl rfl ?_
  refine G.nil ?_
  refine C.block ?_
  refine C.loop (fun m F D' L' => ∃ (i : Nat), m = ims.length - i + 0 ∧ i ≤ ims.length ∧ F 0 = .slice a ims.length c ∧ F 3 = .int .i64 (i : Int) ∧ D' = [] ∧ L = L') ⟨_, ⟨0, rfl, Nat.zero_le _, rfl, rfl, rfl, rfl⟩⟩ ?_
  rintro m F D' L' ⟨i, rfl, hi, h0, h3, rfl, rfl⟩
  refine C.fix (d := 0) h0 ?_
  refine C.fix (d := 3) h3 ?_
  refine C.seq ?_
  refine C.seq ?_
  refine C.region ?_
  refine G.moveI rfl trivial rfl rfl rfl ?_
  refine G.moveS rfl trivial rfl rfl rfl ?_
  refine G.lenSlice rfl trivial rfl rfl Try.underlying38 rfl ?_
  refine G.bin rfl trivial rfl rfl rfl rfl rfl ?_
  refine G.nil ?_
  refine C.cond _ rfl ?_ ?_
  · intro hc0
    have hlt : i < ims.length := by omega
    obtain ⟨p, o, rfl, _⟩ := hx.some_ (by rw [chunk_length (k := 2) (fun _ _ => rfl)]; omega)
    have hce := fun w hm => Rd.chunkL (k := 2) hx (fun _ _ => rfl) hlt w hm
    obtain ⟨hrr, hrl⟩ := hrg _ (List.getElem_mem hlt)
    have hpv : ∀ h1 : 1 ≤ i, ims[i - 1].1 < ims[i].1 := fun h1 => by
      have h2 := List.pairwise_iff_getElem.1 hup (i - 1) i (by simp; omega) (by simpa using hlt) (by omega)
      simpa [imP] using h2
    generalize ims[i] = e1 at hce hrr hrl hpv
    obtain ⟨n1, b1, r1, k1, x1⟩ := e1
    simp only at hrr hrl hpv
    refine C.skip ?_
    refine C.seq ?_
    refine C.block ?_
    refine C.seq ?_
    refine C.drawn mixed (_) [] (fun _ h => h) ?_
    refine GA.pure (i := 0) (fun _ _ _ _ _ h => h) rfl (by kernel_rfl) trivial rfl rfl (Y.moveS rfl rfl) (#[true, false, false, false, false, false, false, false, false, false, false, false, false, false, false, false, false, false, false, false, false, false, false, false, false, false, false, false, false, false, false, false, false, false, false, false, false, false, false, false, false]) (by kernel_rfl) ?_
    refine GA.pure (i := 1) (fun _ _ _ _ _ h => h) rfl (by kernel_rfl) trivial rfl rfl (Y.moveI rfl rfl) (#[true, true, false, false, false, false, false, false, false, false, false, false, false, false, false, false, false, false, false, false, false, false, false, false, false, false, false, false, false, false, false, false, false, false, false, false, false, false, false, false, false]) (by kernel_rfl) ?_
    refine GA.pure (i := 2) (fun _ _ _ _ _ h => h) rfl (by kernel_rfl) trivial rfl rfl (Y.indexAddr rfl Try.underlying38 I40 rfl rfl (by omega)) (#[true, true, true, false, false, false, false, false, false, false, false, false, false, false, false, false, false, false, false, false, false, false, false, false, false, false, false, false, false, false, false, false, false, false, false, false, false, false, false, false, false]) (by kernel_rfl) ?_
    refine GA.pure (i := 3) (fun _ _ _ _ _ h => h) rfl (by kernel_rfl) trivial rfl rfl (Y.fieldAddr rfl Try.underlying40 rfl I3 rfl rfl) (#[true, true, true, true, false, false, false, false, false, false, false, false, false, false, false, false, false, false, false, false, false, false, false, false, false, false, false, false, false, false, false, false, false, false, false, false, false, false, false, false, false]) (by kernel_rfl) ?_
    refine GA.read (i := 4) (fun _ _ _ _ _ h => h) rfl (by kernel_rfl) (by kernel_rfl) trivial rfl rfl (Y.load rfl Try.underlying3 rfl rfl (fun w hm => hce w hm 0 _ rfl)) (#[true, true, true, true, true, false, false, false, false, false, false, false, false, false, false, false, false, false, false, false, false, false, false, false, false, false, false, false, false, false, false, false, false, false, false, false, false, false, false, false, false]) (by kernel_rfl) ?_
    refine GA.pure (i := 5) (fun _ _ _ _ _ h => h) rfl (by kernel_rfl) trivial rfl rfl (Y.bin rfl rfl rfl rfl) (#[true, true, true, true, true, true, false, false, false, false, false, false, false, false, false, false, false, false, false, false, false, false, false, false, false, false, false, false, false, false, false, false, false, false, false, false, false, false, false, false, false]) (by kernel_rfl) ?_
    refine GA.pure (i := 6) (fun _ _ _ _ _ h => h) rfl (by kernel_rfl) trivial rfl rfl (Y.moveB rfl rfl) (#[true, true, true, true, true, true, true, false, false, false, false, false, false, false, false, false, false, false, false, false, false, false, false, false, false, false, false, false, false, false, false, false, false, false, false, false, false, false, false, false, false]) (by kernel_rfl) ?_
    refine GA.no (t := 16) rfl (by show ¬ n1 < 0; omega) ?_
    refine GA.pure (i := 7) (fun _ _ _ _ _ h => h) rfl (by kernel_rfl) ⟨_, rfl, rfl, rfl⟩ rfl rfl (Y.moveS rfl rfl) (#[true, true, true, true, true, true, true, true, false, false, false, false, false, false, false, false, false, false, false, false, false, false, false, false, false, false, false, false, false, false, false, false, false, false, false, false, false, false, false, false, false]) (by kernel_rfl) ?_
    refine GA.pure (i := 8) (fun _ _ _ _ _ h => h) rfl (by kernel_rfl) ⟨_, rfl, rfl, rfl⟩ rfl rfl (Y.moveI rfl rfl) (#[true, true, true, true, true, true, true, true, true, false, false, false, false, false, false, false, false, false, false, false, false, false, false, false, false, false, false, false, false, false, false, false, false, false, false, false, false, false, false, false, false]) (by kernel_rfl) ?_
    refine GA.pure (i := 9) (fun _ _ _ _ _ h => h) rfl (by kernel_rfl) ⟨_, rfl, rfl, rfl⟩ rfl rfl (Y.indexAddr rfl Try.underlying38 I40 rfl rfl (by omega)) (#[true, true, true, true, true, true, true, true, true, true, false, false, false, false, false, false, false, false, false, false, false, false, false, false, false, false, false, false, false, false, false, false, false, false, false, false, false, false, false, false, false]) (by kernel_rfl) ?_
    refine GA.pure (i := 10) (fun _ _ _ _ _ h => h) rfl (by kernel_rfl) ⟨_, rfl, rfl, rfl⟩ rfl rfl (Y.fieldAddr rfl Try.underlying40 rfl I3 rfl rfl) (#[true, true, true, true, true, true, true, true, true, true, true, false, false, false, false, false, false, false, false, false, false, false, false, false, false, false, false, false, false, false, false, false, false, false, false, false, false, false, false, false, false]) (by kernel_rfl) ?_
    refine GA.read (i := 11) (fun _ _ _ _ _ h => h) rfl (by kernel_rfl) (by kernel_rfl) ⟨_, rfl, rfl, rfl⟩ rfl rfl (Y.load rfl Try.underlying3 rfl rfl (fun w hm => hce w hm 0 _ rfl)) (#[true, true, true, true, true, true, true, true, true, true, true, true, false, false, false, false, false, false, false, false, false, false, false, false, false, false, false, false, false, false, false, false, false, false, false, false, false, false, false, false, false]) (by kernel_rfl) ?_
    refine GA.pure (i := 12) (fun _ _ _ _ _ h => h) rfl (by kernel_rfl) ⟨_, rfl, rfl, rfl⟩ rfl rfl (Y.bin rfl rfl rfl rfl) (#[true, true, true, true, true, true, true, true, true, true, true, true, true, false, false, false, false, false, false, false, false, false, false, false, false, false, false, false, false, false, false, false, false, false, false, false, false, false, false, false, false]) (by kernel_rfl) ?_
    first | refine GA.pure (i := 13) (fun _ _ _ _ _ h => h) rfl (by kernel_rfl) trivial rfl rfl (Y.pickT rfl rfl rfl) (#[true, true, true, true, true, true, true, true, true, true, true, true, true, true, false, false, false, false, false, false, false, false, false, false, false, false, false, false, false, false, false, false, false, false, false, false, false, false, false, false, false]) (by kernel_rfl) ?_ | refine GA.pure (i := 13) (fun _ _ _ _ _ h => h) rfl (by kernel_rfl) trivial rfl rfl (Y.pickF rfl rfl rfl) (#[true, true, true, true, true, true, true, true, true, true, true, true, true, true, false, false, false, false, false, false, false, false, false, false, false, false, false, false, false, false, false, false, false, false, false, false, false, false, false, false, false]) (by kernel_rfl) ?_
    refine GA.pure (i := 14) (fun _ _ _ _ _ h => h) rfl (by kernel_rfl) trivial rfl rfl (Y.moveB rfl rfl) (#[true, true, true, true, true, true, true, true, true, true, true, true, true, true, true, false, false, false, false, false, false, false, false, false, false, false, false, false, false, false, false, false, false, false, false, false, false, false, false, false, false]) (by kernel_rfl) ?_
    refine GA.no (t := 24) rfl (by show ¬ n1 > 95; omega) ?_
    refine GA.pure (i := 15) (fun _ _ _ _ _ h => h) rfl (by kernel_rfl) ⟨_, rfl, rfl, rfl⟩ rfl rfl (Y.moveS rfl rfl) (#[true, true, true, true, true, true, true, true, true, true, true, true, true, true, true, true, false, false, false, false, false, false, false, false, false, false, false, false, false, false, false, false, false, false, false, false, false, false, false, false, false]) (by kernel_rfl) ?_
    refine GA.pure (i := 16) (fun _ _ _ _ _ h => h) rfl (by kernel_rfl) ⟨_, rfl, rfl, rfl⟩ rfl rfl (Y.moveI rfl rfl) (#[true, true, true, true, true, true, true, true, true, true, true, true, true, true, true, true, true, false, false, false, false, false, false, false, false, false, false, false, false, false, false, false, false, false, false, false, false, false, false, false, false]) (by kernel_rfl) ?_
    refine GA.pure (i := 17) (fun _ _ _ _ _ h => h) rfl (by kernel_rfl) ⟨_, rfl, rfl, rfl⟩ rfl rfl (Y.indexAddr rfl Try.underlying38 I40 rfl rfl (by omega)) (#[true, true, true, true, true, true, true, true, true, true, true, true, true, true, true, true, true, true, false, false, false, false, false, false, false, false, false, false, false, false, false, false, false, false, false, false, false, false, false, false, false]) (by kernel_rfl) ?_
    refine GA.pure (i := 18) (fun _ _ _ _ _ h => h) rfl (by kernel_rfl) ⟨_, rfl, rfl, rfl⟩ rfl rfl (Y.fieldAddr rfl Try.underlying40 rfl I22 rfl rfl) (#[true, true, true, true, true, true, true, true, true, true, true, true, true, true, true, true, true, true, true, false, false, false, false, false, false, false, false, false, false, false, false, false, false, false, false, false, false, false, false, false, false]) (by kernel_rfl) ?_
    refine GA.read (i := 19) (fun _ _ _ _ _ h => h) rfl (by kernel_rfl) (by kernel_rfl) ⟨_, rfl, rfl, rfl⟩ rfl rfl (Y.load rfl Try.underlying22 rfl rfl (fun w hm => hce w hm 1 _ rfl)) (#[true, true, true, true, true, true, true, true, true, true, true, true, true, true, true, true, true, true, true, true, false, false, false, false, false, false, false, false, false, false, false, false, false, false, false, false, false, false, false, false, false]) (by kernel_rfl) ?_
    refine GA.pure (i := 20) (fun _ _ _ _ _ h => h) rfl (by kernel_rfl) ⟨_, rfl, rfl, rfl⟩ rfl rfl (Y.lenSlice rfl Try.underlying22 rfl) (#[true, true, true, true, true, true, true, true, true, true, true, true, true, true, true, true, true, true, true, true, true, false, false, false, false, false, false, false, false, false, false, false, false, false, false, false, false, false, false, false, false]) (by kernel_rfl) ?_
    refine GA.fix (d := 30) (v := .int .i64 (x1.length : Int)) rfl ?_
    refine GA.pure (i := 21) (fun _ _ _ _ _ h => h) rfl (by kernel_rfl) ⟨_, rfl, rfl, rfl⟩ rfl rfl (Y.bin rfl rfl rfl rfl) (#[true, true, true, true, true, true, true, true, true, true, true, true, true, true, true, true, true, true, true, true, true, true, false, false, false, false, false, false, false, false, false, false, false, false, false, false, false, false, false, false, false]) (by kernel_rfl) ?_
    first | refine GA.pure (i := 22) (fun _ _ _ _ _ h => h) rfl (by kernel_rfl) trivial rfl rfl (Y.pickT rfl rfl rfl) (#[true, true, true, true, true, true, true, true, true, true, true, true, true, true, true, true, true, true, true, true, true, true, true, false, false, false, false, false, false, false, false, false, false, false, false, false, false, false, false, false, false]) (by kernel_rfl) ?_ | refine GA.pure (i := 22) (fun _ _ _ _ _ h => h) rfl (by kernel_rfl) trivial rfl rfl (Y.pickF rfl rfl rfl) (#[true, true, true, true, true, true, true, true, true, true, true, true, true, true, true, true, true, true, true, true, true, true, true, false, false, false, false, false, false, false, false, false, false, false, false, false, false, false, false, false, false]) (by kernel_rfl) ?_
    refine GA.pure (i := 23) (fun _ _ _ _ _ h => h) rfl (by kernel_rfl) trivial rfl rfl (Y.moveB rfl rfl) (#[true, true, true, true, true, true, true, true, true, true, true, true, true, true, true, true, true, true, true, true, true, true, true, true, false, false, false, false, false, false, false, false, false, false, false, false, false, false, false, false, false]) (by kernel_rfl) ?_
    refine GA.no (t := 33) rfl (by omega) ?_
    refine GA.pure (i := 24) (fun _ _ _ _ _ h => h) rfl (by kernel_rfl) ⟨_, rfl, rfl, rfl⟩ rfl rfl (Y.moveI rfl rfl) (#[true, true, true, true, true, true, true, true, true, true, true, true, true, true, true, true, true, true, true, true, true, true, true, true, true, false, false, false, false, false, false, false, false, false, false, false, false, false, false, false, false]) (by kernel_rfl) ?_
    refine GA.pure (i := 25) (fun _ _ _ _ _ h => h) rfl (by kernel_rfl) ⟨_, rfl, rfl, rfl⟩ rfl rfl (Y.bin rfl rfl rfl rfl) (#[true, true, true, true, true, true, true, true, true, true, true, true, true, true, true, true, true, true, true, true, true, true, true, true, true, true, false, false, false, false, false, false, false, false, false, false, false, false, false, false, false]) (by kernel_rfl) ?_
    refine GA.pure (i := 26) (fun _ _ _ _ _ h => h) rfl (by kernel_rfl) ⟨_, rfl, rfl, rfl⟩ rfl rfl (Y.moveB rfl rfl) (#[true, true, true, true, true, true, true, true, true, true, true, true, true, true, true, true, true, true, true, true, true, true, true, true, true, true, true, false, false, false, false, false, false, false, false, false, false, false, false, false, false]) (by kernel_rfl) ?_
    refine GA.fork (t := 36) _ rfl ?_ ?_
    · intro hg36
      refine GA.pure (i := 27) (fun _ _ _ _ _ h => h) rfl (by kernel_rfl) ⟨_, rfl, rfl, rfl⟩ rfl rfl (Y.moveS rfl rfl) (#[true, true, true, true, true, true, true, true, true, true, true, true, true, true, true, true, true, true, true, true, true, true, true, true, true, true, true, true, false, false, false, false, false, false, false, false, false, false, false, false, false]) (by kernel_rfl) ?_
      refine GA.pure (i := 28) (fun _ _ _ _ _ h => h) rfl (by kernel_rfl) ⟨_, rfl, rfl, rfl⟩ rfl rfl (Y.moveI rfl rfl) (#[true, true, true, true, true, true, true, true, true, true, true, true, true, true, true, true, true, true, true, true, true, true, true, true, true, true, true, true, true, false, false, false, false, false, false, false, false, false, false, false, false]) (by kernel_rfl) ?_
      refine GA.pure (i := 29) (fun _ _ _ _ _ h => h) rfl (by kernel_rfl) ⟨_, rfl, rfl, rfl⟩ rfl rfl (Y.indexAddr rfl Try.underlying38 I40 rfl rfl (by omega)) (#[true, true, true, true, true, true, true, true, true, true, true, true, true, true, true, true, true, true, true, true, true, true, true, true, true, true, true, true, true, true, false, false, false, false, false, false, false, false, false, false, false]) (by kernel_rfl) ?_
      refine GA.pure (i := 30) (fun _ _ _ _ _ h => h) rfl (by kernel_rfl) ⟨_, rfl, rfl, rfl⟩ rfl rfl (Y.fieldAddr rfl Try.underlying40 rfl I3 rfl rfl) (#[true, true, true, true, true, true, true, true, true, true, true, true, true, true, true, true, true, true, true, true, true, true, true, true, true, true, true, true, true, true, true, false, false, false, false, false, false, false, false, false, false]) (by kernel_rfl) ?_
      refine GA.read (i := 31) (fun _ _ _ _ _ h => h) rfl (by kernel_rfl) (by kernel_rfl) ⟨_, rfl, rfl, rfl⟩ rfl rfl (Y.load rfl Try.underlying3 rfl rfl (fun w hm => hce w hm 0 _ rfl)) (#[true, true, true, true, true, true, true, true, true, true, true, true, true, true, true, true, true, true, true, true, true, true, true, true, true, true, true, true, true, true, true, true, false, false, false, false, false, false, false, false, false]) (by kernel_rfl) ?_
      refine GA.pure (i := 32) (fun _ _ _ _ _ h => h) rfl (by kernel_rfl) ⟨_, rfl, rfl, rfl⟩ rfl rfl (Y.moveS rfl rfl) (#[true, true, true, true, true, true, true, true, true, true, true, true, true, true, true, true, true, true, true, true, true, true, true, true, true, true, true, true, true, true, true, true, true, false, false, false, false, false, false, false, false]) (by kernel_rfl) ?_
      refine GA.pure (i := 33) (fun _ _ _ _ _ h => h) rfl (by kernel_rfl) ⟨_, rfl, rfl, rfl⟩ rfl rfl (Y.moveI rfl rfl) (#[true, true, true, true, true, true, true, true, true, true, true, true, true, true, true, true, true, true, true, true, true, true, true, true, true, true, true, true, true, true, true, true, true, true, false, false, false, false, false, false, false]) (by kernel_rfl) ?_
      refine GA.pure (i := 34) (fun _ _ _ _ _ h => h) rfl (by kernel_rfl) ⟨_, rfl, rfl, rfl⟩ rfl rfl (Y.subN (j := 1) rfl rfl rfl (by omega)) (#[true, true, true, true, true, true, true, true, true, true, true, true, true, true, true, true, true, true, true, true, true, true, true, true, true, true, true, true, true, true, true, true, true, true, true, false, false, false, false, false, false]) (by kernel_rfl) ?_
      have hi1 : 1 ≤ i := by omega
      refine GA.fix (d := 44) (v := .int .i64 ((i - 1 : Nat) : Int)) (by show Value.int _ _ = _; first | rfl | (congr 1; omega)) ?_
      refine GA.pure (i := 35) (fun _ _ _ _ _ h => h) rfl (by kernel_rfl) ⟨_, rfl, rfl, rfl⟩ rfl rfl (Y.indexAddr rfl Try.underlying38 I40 rfl rfl (by omega)) (#[true, true, true, true, true, true, true, true, true, true, true, true, true, true, true, true, true, true, true, true, true, true, true, true, true, true, true, true, true, true, true, true, true, true, true, true, false, false, false, false, false]) (by kernel_rfl) ?_
      refine GA.pure (i := 36) (fun _ _ _ _ _ h => h) rfl (by kernel_rfl) ⟨_, rfl, rfl, rfl⟩ rfl rfl (Y.fieldAddr rfl Try.underlying40 rfl I3 rfl rfl) (#[true, true, true, true, true, true, true, true, true, true, true, true, true, true, true, true, true, true, true, true, true, true, true, true, true, true, true, true, true, true, true, true, true, true, true, true, true, false, false, false, false]) (by kernel_rfl) ?_
      refine GA.read (i := 37) (fun _ _ _ _ _ h => h) rfl (by kernel_rfl) (by kernel_rfl) ⟨_, rfl, rfl, rfl⟩ rfl rfl (Y.load (v := .int .i64 ims[i - 1].1) rfl Try.underlying3 rfl rfl (fun w hm => Rd.chunkL (k := 2) hx (fun _ _ => rfl) (show i - 1 < ims.length by omega) w hm 0 _ rfl)) (#[true, true, true, true, true, true, true, true, true, true, true, true, true, true, true, true, true, true, true, true, true, true, true, true, true, true, true, true, true, true, true, true, true, true, true, true, true, true, false, false, false]) (by kernel_rfl) ?_
      refine GA.pure (i := 38) (fun _ _ _ _ _ h => h) rfl (by kernel_rfl) ⟨_, rfl, rfl, rfl⟩ rfl rfl (Y.bin rfl rfl rfl rfl) (#[true, true, true, true, true, true, true, true, true, true, true, true, true, true, true, true, true, true, true, true, true, true, true, true, true, true, true, true, true, true, true, true, true, true, true, true, true, true, true, false, false]) (by kernel_rfl) ?_
      first | refine GA.pure (i := 39) (fun _ _ _ _ _ h => h) rfl (by kernel_rfl) ⟨_, rfl, rfl, rfl⟩ rfl rfl (Y.pickT rfl rfl rfl) (#[true, true, true, true, true, true, true, true, true, true, true, true, true, true, true, true, true, true, true, true, true, true, true, true, true, true, true, true, true, true, true, true, true, true, true, true, true, true, true, true, false]) (by kernel_rfl) ?_ | refine GA.pure (i := 39) (fun _ _ _ _ _ h => h) rfl (by kernel_rfl) ⟨_, rfl, rfl, rfl⟩ rfl rfl (Y.pickF rfl rfl rfl) (#[true, true, true, true, true, true, true, true, true, true, true, true, true, true, true, true, true, true, true, true, true, true, true, true, true, true, true, true, true, true, true, true, true, true, true, true, true, true, true, true, false]) (by kernel_rfl) ?_
      first | refine GA.pure (i := 40) (fun _ _ _ _ _ h => h) rfl (by kernel_rfl) trivial rfl rfl (Y.pickT rfl rfl rfl) (#[true, true, true, true, true, true, true, true, true, true, true, true, true, true, true, true, true, true, true, true, true, true, true, true, true, true, true, true, true, true, true, true, true, true, true, true, true, true, true, true, true]) (by kernel_rfl) ?_ | refine GA.pure (i := 40) (fun _ _ _ _ _ h => h) rfl (by kernel_rfl) trivial rfl rfl (Y.pickF rfl rfl rfl) (#[true, true, true, true, true, true, true, true, true, true, true, true, true, true, true, true, true, true, true, true, true, true, true, true, true, true, true, true, true, true, true, true, true, true, true, true, true, true, true, true, true]) (by kernel_rfl) ?_
      refine GA.done (by kernel_rfl) ?_
      refine C.no rfl (by have := hpv hi1; omega) ?_
      refine C.skip ?_
      refine C.region ?_
      refine G.moveI rfl trivial rfl rfl rfl ?_
      refine G.addN (j := 1) rfl trivial rfl rfl rfl rfl (by omega) ?_
      refine G.assignI rfl trivial rfl rfl rfl ?_
      refine G.nil ?_
      exact ⟨ims.length - (i + 1) + 0, by omega, i + 1, rfl, by omega, rfl, rfl, rfl, rfl⟩
    · intro hg36
      refine GA.skip (i := 27) (fun _ _ _ _ _ h => h) rfl (by kernel_rfl) rfl rfl rfl rfl rfl rfl (#[true, true, true, true, true, true, true, true, true, true, true, true, true, true, true, true, true, true, true, true, true, true, true, true, true, true, true, true, false, false, false, false, false, false, false, false, false, false, false, false, false]) (by kernel_rfl) ?_
      refine GA.skip (i := 28) (fun _ _ _ _ _ h => h) rfl (by kernel_rfl) rfl rfl rfl rfl rfl rfl (#[true, true, true, true, true, true, true, true, true, true, true, true, true, true, true, true, true, true, true, true, true, true, true, true, true, true, true, true, true, false, false, false, false, false, false, false, false, false, false, false, false]) (by kernel_rfl) ?_
      refine GA.skip (i := 29) (fun _ _ _ _ _ h => h) rfl (by kernel_rfl) rfl rfl rfl rfl rfl rfl (#[true, true, true, true, true, true, true, true, true, true, true, true, true, true, true, true, true, true, true, true, true, true, true, true, true, true, true, true, true, true, false, false, false, false, false, false, false, false, false, false, false]) (by kernel_rfl) ?_
      refine GA.skip (i := 30) (fun _ _ _ _ _ h => h) rfl (by kernel_rfl) rfl rfl rfl rfl rfl rfl (#[true, true, true, true, true, true, true, true, true, true, true, true, true, true, true, true, true, true, true, true, true, true, true, true, true, true, true, true, true, true, true, false, false, false, false, false, false, false, false, false, false]) (by kernel_rfl) ?_
      refine GA.skip (i := 31) (fun _ _ _ _ _ h => h) rfl (by kernel_rfl) rfl rfl rfl rfl rfl rfl (#[true, true, true, true, true, true, true, true, true, true, true, true, true, true, true, true, true, true, true, true, true, true, true, true, true, true, true, true, true, true, true, true, false, false, false, false, false, false, false, false, false]) (by kernel_rfl) ?_
      refine GA.skip (i := 32) (fun _ _ _ _ _ h => h) rfl (by kernel_rfl) rfl rfl rfl rfl rfl rfl (#[true, true, true, true, true, true, true, true, true, true, true, true, true, true, true, true, true, true, true, true, true, true, true, true, true, true, true, true, true, true, true, true, true, false, false, false, false, false, false, false, false]) (by kernel_rfl) ?_
      refine GA.skip (i := 33) (fun _ _ _ _ _ h => h) rfl (by kernel_rfl) rfl rfl rfl rfl rfl rfl (#[true, true, true, true, true, true, true, true, true, true, true, true, true, true, true, true, true, true, true, true, true, true, true, true, true, true, true, true, true, true, true, true, true, true, false, false, false, false, false, false, false]) (by kernel_rfl) ?_
      refine GA.skip (i := 34) (fun _ _ _ _ _ h => h) rfl (by kernel_rfl) rfl rfl rfl rfl rfl rfl (#[true, true, true, true, true, true, true, true, true, true, true, true, true, true, true, true, true, true, true, true, true, true, true, true, true, true, true, true, true, true, true, true, true, true, true, false, false, false, false, false, false]) (by kernel_rfl) ?_
      refine GA.skip (i := 35) (fun _ _ _ _ _ h => h) rfl (by kernel_rfl) rfl rfl rfl rfl rfl rfl (#[true, true, true, true, true, true, true, true, true, true, true, true, true, true, true, true, true, true, true, true, true, true, true, true, true, true, true, true, true, true, true, true, true, true, true, true, false, false, false, false, false]) (by kernel_rfl) ?_
      refine GA.skip (i := 36) (fun _ _ _ _ _ h => h) rfl (by kernel_rfl) rfl rfl rfl rfl rfl rfl (#[true, true, true, true, true, true, true, true, true, true, true, true, true, true, true, true, true, true, true, true, true, true, true, true, true, true, true, true, true, true, true, true, true, true, true, true, true, false, false, false, false]) (by kernel_rfl) ?_
      refine GA.skip (i := 37) (fun _ _ _ _ _ h => h) rfl (by kernel_rfl) rfl rfl rfl rfl rfl rfl (#[true, true, true, true, true, true, true, true, true, true, true, true, true, true, true, true, true, true, true, true, true, true, true, true, true, true, true, true, true, true, true, true, true, true, true, true, true, true, false, false, false]) (by kernel_rfl) ?_
      refine GA.skip (i := 38) (fun _ _ _ _ _ h => h) rfl (by kernel_rfl) rfl rfl rfl rfl rfl rfl (#[true, true, true, true, true, true, true, true, true, true, true, true, true, true, true, true, true, true, true, true, true, true, true, true, true, true, true, true, true, true, true, true, true, true, true, true, true, true, true, false, false]) (by kernel_rfl) ?_
      first | refine GA.pure (i := 39) (fun _ _ _ _ _ h => h) rfl (by kernel_rfl) ⟨_, rfl, rfl, rfl⟩ rfl rfl (Y.pickT rfl rfl rfl) (#[true, true, true, true, true, true, true, true, true, true, true, true, true, true, true, true, true, true, true, true, true, true, true, true, true, true, true, true, true, true, true, true, true, true, true, true, true, true, true, true, false]) (by kernel_rfl) ?_ | refine GA.pure (i := 39) (fun _ _ _ _ _ h => h) rfl (by kernel_rfl) ⟨_, rfl, rfl, rfl⟩ rfl rfl (Y.pickF rfl rfl rfl) (#[true, true, true, true, true, true, true, true, true, true, true, true, true, true, true, true, true, true, true, true, true, true, true, true, true, true, true, true, true, true, true, true, true, true, true, true, true, true, true, true, false]) (by kernel_rfl) ?_
      first | refine GA.pure (i := 40) (fun _ _ _ _ _ h => h) rfl (by kernel_rfl) trivial rfl rfl (Y.pickT rfl rfl rfl) (#[true, true, true, true, true, true, true, true, true, true, true, true, true, true, true, true, true, true, true, true, true, true, true, true, true, true, true, true, true, true, true, true, true, true, true, true, true, true, true, true, true]) (by kernel_rfl) ?_ | refine GA.pure (i := 40) (fun _ _ _ _ _ h => h) rfl (by kernel_rfl) trivial rfl rfl (Y.pickF rfl rfl rfl) (#[true, true, true, true, true, true, true, true, true, true, true, true, true, true, true, true, true, true, true, true, true, true, true, true, true, true, true, true, true, true, true, true, true, true, true, true, true, true, true, true, true]) (by kernel_rfl) ?_
      refine GA.done (by kernel_rfl) ?_
      refine C.condF rfl ?_
      refine C.skip ?_
      refine C.region ?_
      refine G.moveI rfl trivial rfl rfl rfl ?_
      refine G.addN (j := 1) rfl trivial rfl rfl rfl rfl (by omega) ?_
      refine G.assignI rfl trivial rfl rfl rfl ?_
      refine G.nil ?_
      exact ⟨ims.length - (i + 1) + 0, by omega, i + 1, rfl, by omega, rfl, rfl, rfl, rfl⟩
  · intro hc0
    refine C.exit ?_
    refine C.seq ?_
    refine C.region ?_
    refine G.moveS rfl trivial rfl rfl rfl ?_
    refine G.lenSlice rfl trivial rfl rfl Try.underlying38 rfl ?_
    by_cases hone : 1 ≤ ims.length
    ·
      refine G.bin rfl trivial rfl rfl rfl rfl rfl ?_
      refine G.moveB rfl trivial rfl rfl rfl ?_
      refine G.yes (t := 54) rfl (by omega) ?_
      refine G.moveS rfl ⟨_, rfl, rfl, rfl⟩ rfl rfl rfl ?_
      refine G.lenSlice rfl ⟨_, rfl, rfl, rfl⟩ rfl rfl Try.underlying38 rfl ?_
      refine G.bin rfl ⟨_, rfl, rfl, rfl⟩ rfl rfl rfl rfl rfl ?_
      first | refine G.pickT rfl trivial rfl rfl rfl rfl ?_ | refine G.pickF rfl trivial rfl rfl rfl rfl ?_
      refine G.assignB rfl trivial rfl rfl rfl ?_
      refine G.nil ?_
      refine C.ret ?_
      -- end c0Fx53T
      exact ⟨rfl, _, Res.of (rs := [.tmp 2]) rfl rfl, rfl, by rw [decide_eq_true hone]; show Ending.returned (Value.bool (decide _)) = _; rw [decide_eq_true (by omega)]⟩
    ·
      refine G.bin rfl trivial rfl rfl rfl rfl rfl ?_
      refine G.moveB rfl trivial rfl rfl rfl ?_
      refine G.no (t := 54) rfl (by omega) ?_
      refine G.skip rfl rfl rfl rfl rfl rfl ?_
      refine G.skip rfl rfl rfl rfl rfl rfl ?_
      refine G.skip rfl rfl rfl rfl rfl rfl ?_
      first | refine G.pickT rfl trivial rfl rfl rfl rfl ?_ | refine G.pickF rfl trivial rfl rfl rfl rfl ?_
      refine G.assignB rfl trivial rfl rfl rfl ?_
      refine G.nil ?_
      refine C.ret ?_
      -- end c0Fx53F
      exact ⟨rfl, _, Res.of (rs := [.tmp 2]) rfl rfl, rfl, by rw [decide_eq_false hone]; rfl⟩
end tops
end Sht
end Go.Proofs.Ytgfdghhojnmaoaa
