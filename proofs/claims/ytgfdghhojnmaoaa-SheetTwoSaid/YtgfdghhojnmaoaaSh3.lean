/-
  Sheets: Changes told by all numbers in their order; Page, Must of a sheet; what is tried; the book of the laws.
-/
import Derived.Test.YtgfdghhojnmaoaaSh2
import Derived.Test.YtgfdghhojnmaoaaGd0
namespace Go.Proofs.Ytgfdghhojnmaoaa
namespace Sht
open Go Go.SL Go.RowKit

def chL (mg : Int → Option (List UInt8)) (R : Ans) : List (Int × List UInt8) := (List.range 96).filterMap fun (k : Nat) => chg1 mg R (k : Int)
theorem rising_eq : ∀ (l l' : List Int), l.Pairwise (· < ·) → l'.Pairwise (· < ·) → (∀ a, a ∈ l ↔ a ∈ l') → l = l'
  | [], [], _, _, _ => rfl
  | [], y :: _, _, _, h => by have := (h y).2 (by simp); cases this
  | x :: _, [], _, _, h => by have := (h x).1 (by simp); cases this
  | x :: xs, y :: ys, h1, h2, h => by
    rw [List.pairwise_cons] at h1 h2
    have e : x = y := by
      rcases List.mem_cons.1 ((h x).1 (by simp)) with e | hx
      · exact e
      · rcases List.mem_cons.1 ((h y).2 (by simp)) with e | hy
        · exact e.symm
        · have := h1.1 y hy; have := h2.1 x hx; omega
    subst e
    rw [rising_eq xs ys h1.2 h2.2 fun a => ?_]
    constructor
    · intro ha
      have h3 := h1.1 a ha
      rcases List.mem_cons.1 ((h a).1 (by simp [ha])) with e | h4
      · omega
      · exact h4
    · intro ha
      have h3 := h2.1 a ha
      rcases List.mem_cons.1 ((h a).2 (by simp [ha])) with e | h4
      · omega
      · exact h4
theorem keys_all {es : Ent} {ck : Nat} {mg : Int → Option (List UInt8)} (h : MapIs es ck mg) : sortZ (es.map (·.1)) = ((List.range 96).map fun (k : Nat) => (k : Int)).filter fun k => (mg k).isSome := by
  refine rising_eq _ _ ?_ ?_ fun a => ?_
  · have h1 : (sortZ (es.map (·.1))).Pairwise (· ≤ ·) := by
      refine (List.pairwise_mergeSort (fun a b c h1 h2 => ?_) (fun a b => ?_) _).imp fun h => of_decide_eq_true h
      · simp at h1 h2 ⊢; omega
      · simp; omega
    have h2 : (sortZ (es.map (·.1))).Nodup := (List.mergeSort_perm _ _).nodup_iff.2 h.keys
    exact (h1.and h2).imp fun ⟨h3, h4⟩ => by omega
  · refine List.Pairwise.filter _ ?_
    rw [List.pairwise_map]
    exact List.pairwise_lt_range.imp fun h => by omega
  · rw [sortZ_mem, List.mem_filter]
    constructor
    · intro ha
      obtain ⟨b, hb, _, h1, h2⟩ := h.key ha
      exact ⟨List.mem_map.2 ⟨a.toNat, List.mem_range.2 (by omega), by omega⟩, by rw [hb]; rfl⟩
    · rintro ⟨_, hs⟩
      obtain ⟨b, hb⟩ := Option.isSome_iff_exists.1 hs
      have hv := h.val a
      rw [hb] at hv
      have key : ∀ (es : Ent), mget es a = some (.string (strB b)) → a ∈ es.map (·.1) := by
        intro es
        induction es with
        | nil => intro h; cases h
        | cons x xs ih =>
          intro hm
          rw [mget_cons] at hm
          split at hm
          · rename_i e; simp [e]
          · exact List.mem_cons_of_mem _ (ih hm)
      exact key es hv
theorem chg_all {es : Ent} {ck : Nat} {mg : Int → Option (List UInt8)} (R : Ans) (h : MapIs es ck mg) : chg mg R (sortZ (es.map (·.1))) = chL mg R := by
  rw [keys_all h]
  unfold chg chL
  rw [List.filterMap_filter, List.filterMap_map]
  congr 1
  funext k
  simp only [Function.comp]
  split
  · rfl
  · rename_i hs
    unfold chg1
    cases hm : mg (k : Int) with
    | none => rfl
    | some b => rw [hm] at hs; exact absurd rfl hs
section sheet
variable (W0 : World) (bs : Nat)
theorem schanges_spec (L : List Seg) {mg : Int → Option (List UInt8)} {R : Ans} {S s : Seg} (h : ShIs W0 bs mg R S s) :
    FnS Try.prog W0 16 #[ptr bs] (s :: L) (fun e L' => ∃ a c s1 s2, ImsIs (.slice a (chL mg R).length c) (chL mg R) s1 s2 ∧ L' = s1 :: s2 :: s :: L ∧ e = .returned (.slice a (chL mg R).length c)) := by
  obtain ⟨bm, pv, es, ck, hm, hb, rfl⟩ := h
  refine ((schanges_open W0 bs L bm pv es ck S R mg hm hb).perm (by simp)).drop fun e L' ⟨a, c, s1, s2, j1, j2, h1, h2, h3⟩ => ?_
  rw [chg_all R hm] at h1 h3
  refine ⟨s1 :: s2 :: ((bs, .row [pv, .map (some bm)] 58 2) :: (bm, mapO .i64 es ck) :: S) :: L, fun w hw => ?_, a, c, s1, s2, h1, rfl, h3⟩
  subst h2
  exact (hw.fewer (L' := s1 :: s2 :: shS bs bm pv :: [(bm, mapO .i64 es ck)] :: S :: L) (by simp)).of_flat (by simp)
theorem smust_ok (L : List Seg) {mg : Int → Option (List UInt8)} {R : Ans} {S s : Seg} (h : ShIs W0 bs mg R S s) (no : Int) (hno : -9223372036854775808 ≤ no ∧ no ≤ 9223372036854775807) (xs : List UInt8) (hR : shR mg R no = .ok xs) :
    FnS Try.prog W0 17 #[ptr bs, .int .i64 no] (s :: L) (fun e L' => ∃ a c so, OwnS (.slice a xs.length c) xs.length (bytesV xs) 5 1 so ∧ L' = so :: s :: L ∧ e = .returned (.slice a xs.length c)) := by
  have hpg := (sheet_src W0 bs h).page L no hno
  rw [hR] at hpg
  refine FnS.of (args := [ptr bs, .int .i64 no]) Try.func17 rfl rfl ?_
  refine C.seq ?_
  refine C.region ?_
  refine G.assignS rfl trivial rfl rfl rfl ?_
  refine G.nil ?_
  refine C.seq ?_
  refine C.region ?_
  refine G.moveP rfl trivial rfl rfl rfl ?_
  refine G.moveI rfl trivial rfl rfl rfl ?_
  refine G.call E13 rfl rfl trivial rfl rfl hpg rfl ?_
  rintro e L2 ⟨a10, c10, s10, hv10, rfl, rfl⟩
  refine G.moveU rfl trivial rfl rfl rfl ?_
  refine G.extractL rfl trivial rfl rfl rfl rfl ?_
  refine G.extractL rfl trivial rfl rfl rfl rfl ?_
  refine G.assignS rfl trivial rfl rfl rfl ?_
  refine G.assignI rfl trivial rfl rfl rfl ?_
  refine G.nil ?_
  refine C.seq ?_
  refine C.region ?_
  refine G.moveI rfl trivial rfl rfl rfl ?_
  refine G.bin rfl trivial rfl rfl rfl rfl rfl ?_
  refine G.moveI rfl trivial rfl rfl rfl ?_
  refine G.call E28 rfl rfl trivial rfl rfl (check_spec W0 _ 0) rfl ?_
  rintro e L2 ⟨rfl, rfl⟩
  refine G.nil ?_
  refine C.seq ?_
  refine C.region ?_
  refine G.moveS rfl trivial rfl rfl rfl ?_
  refine G.assignS rfl trivial rfl rfl rfl ?_
  refine G.nil ?_
  refine C.ret ?_
  -- end 
  exact ⟨rfl, _, Res.of (rs := [.tmp 4]) rfl rfl, a10, c10, s10, hv10, rfl, rfl⟩
theorem smust_err (L : List Seg) {mg : Int → Option (List UInt8)} {R : Ans} {S s : Seg} (h : ShIs W0 bs mg R S s) (no : Int) (hno : -9223372036854775808 ≤ no ∧ no ≤ 9223372036854775807) (c : Int) (hR : shR mg R no = .error c) :
    FnS Try.prog W0 17 #[ptr bs, .int .i64 no] (s :: L) (fun e L' => L' = s :: L ∧ e = .panicked (fault c)) := by
  have hs := sheet_src W0 bs h
  have hc := hs.errs no c hR
  have hpg := hs.page L no hno
  rw [hR] at hpg
  refine FnS.of (args := [ptr bs, .int .i64 no]) Try.func17 rfl rfl ?_
  refine C.seq ?_
  refine C.region ?_
  refine G.assignS rfl trivial rfl rfl rfl ?_
  refine G.nil ?_
  refine C.seq ?_
  refine C.region ?_
  refine G.moveP rfl trivial rfl rfl rfl ?_
  refine G.moveI rfl trivial rfl rfl rfl ?_
  refine G.call E13 rfl rfl trivial rfl rfl hpg rfl ?_
  rintro e L2 ⟨rfl, rfl⟩
  refine G.moveU rfl trivial rfl rfl rfl ?_
  refine G.extractL rfl trivial rfl rfl rfl rfl ?_
  refine G.extractL rfl trivial rfl rfl rfl rfl ?_
  refine G.assignS rfl trivial rfl rfl rfl ?_
  refine G.assignI rfl trivial rfl rfl rfl ?_
  refine G.nil ?_
  refine C.seq ?_
  refine C.region ?_
  refine G.moveI rfl trivial rfl rfl rfl ?_
  refine G.bin rfl trivial rfl rfl rfl rfl rfl ?_
  refine G.no (t := 14) rfl hc ?_
  refine G.moveI rfl trivial rfl rfl rfl ?_
  refine G.call E28 rfl rfl trivial rfl rfl (check_breaks W0 _ c) rfl ?_
  rintro e L2 ⟨rfl, rfl⟩
  exact ⟨rfl, rfl, by unfold brk; rw [if_neg hc]⟩
theorem smust_nil (L : List Seg) (no : Int) :
    FnS Try.prog W0 17 #[.pointer none, .int .i64 no] L (fun e L' => L' = L ∧ e = .panicked (fault 5)) := by
  refine FnS.of (args := [.pointer none, .int .i64 no]) Try.func17 rfl rfl ?_
  refine C.seq ?_
  refine C.region ?_
  refine G.assignS rfl trivial rfl rfl rfl ?_
  refine G.nil ?_
  refine C.seq ?_
  refine C.region ?_
  refine G.moveP rfl trivial rfl rfl rfl ?_
  refine G.moveI rfl trivial rfl rfl rfl ?_
  refine G.call E13 rfl rfl trivial rfl rfl (spage_nil W0 _ no) rfl ?_
  rintro e L2 ⟨rfl, rfl⟩
  refine G.moveU rfl trivial rfl rfl rfl ?_
  refine G.extractL rfl trivial rfl rfl rfl rfl ?_
  refine G.extractL rfl trivial rfl rfl rfl rfl ?_
  refine G.assignS rfl trivial rfl rfl rfl ?_
  refine G.assignI rfl trivial rfl rfl rfl ?_
  refine G.nil ?_
  refine C.seq ?_
  refine C.region ?_
  refine G.moveI rfl trivial rfl rfl rfl ?_
  refine G.bin rfl trivial rfl rfl rfl rfl rfl ?_
  refine G.no (t := 14) rfl (by decide) ?_
  refine G.moveI rfl trivial rfl rfl rfl ?_
  refine G.call E28 rfl rfl trivial rfl rfl (check_breaks W0 _ 5) rfl ?_
  rintro e L2 ⟨rfl, rfl⟩
  exact ⟨rfl, rfl, rfl⟩
end sheet
/-- what is tried goes through, whatever it leaves -/
theorem try_okR (W0 : World) (L : List Seg) (Rr : List Seg → Prop) (g : FuncId) (l1 l2 args : List Value) (v : Value) (he : Enters Try.prog g) (hargs : l1 ++ [] ++ l2 = args)
    (h : ∀ b, FnS Try.prog W0 g args.toArray ([(b, .row [.int .i64 0] 34 1)] :: L) (fun e L' => ∃ L1, L' = [(b, .row [.int .i64 0] 34 1)] :: L1 ∧ Rr L1 ∧ e = .returned v)) :
    FnS Try.prog W0 21 #[.func (.func g) l1.toArray l2.toArray] L (fun e L' => Rr L' ∧ e = .returned (.int .i64 0)) := by
  refine FnS.ofD (args := [.func (.func g) l1.toArray l2.toArray]) Try.func21 rfl rfl ?_
  refine C.seq ?_
  refine C.region ?_
  refine G.allocC (cs := [(.int .i64 0)]) rfl trivial rfl rfl I34 rfl ?_
  intro b2
  refine G.nil ?_
  refine C.seq ?_
  refine C.seq ?_
  refine C.region ?_
  refine G.moveF rfl trivial rfl rfl rfl ?_
  refine G.fnEq rfl trivial rfl rfl Try.underlying1 rfl rfl ?_
  refine G.nil ?_
  refine C.condF rfl ?_
  refine C.skip ?_
  refine C.seq ?_
  refine C.region ?_
  refine G.makeFuncL (l2 := [.pointer (some ⟨b2, 0, none⟩)]) rfl trivial rfl rfl rfl rfl ?_
  refine G.deferF rfl trivial rfl rfl rfl rfl ?_
  refine G.nil ?_
  refine C.seq ?_
  refine C.region ?_
  refine G.moveF rfl trivial rfl rfl rfl ?_
  refine G.callV he rfl rfl rfl trivial rfl rfl (h _) hargs ?_
  rintro e L2 ⟨L1, rfl, hRr, rfl⟩
  refine G.nil ?_
  refine C.seq ?_
  refine C.region ?_
  refine G.store (v := .int _ _) (by first | exact .here | exact .next .here | exact .next (.next .here) | exact .next (.next (.next .here)) | exact .next (.next (.next (.next .here))) | exact .next (.next (.next (.next (.next .here)))) | exact .next (.next (.next (.next (.next (.next .here))))) | exact .next (.next (.next (.next (.next (.next (.next .here)))))) | exact .in1 | exact .next .in1 | exact .next (.next .in1) | exact .next (.next (.next .in1)) | exact .next (.next (.next (.next .in1))) | exact .in2 | exact .next .in2 | exact .next (.next .in2) | exact .next (.next (.next .in2)) | exact .next (.next (.next (.next .in2))) | exact .app .here | exact .app (.next .here) | exact .app (.next (.next .here)) | exact .app (.next (.next (.next .here))) | exact .app (.next (.next (.next (.next .here)))) | exact .app (.next (.next (.next (.next (.next .here))))) | exact .app (.next (.next (.next (.next (.next (.next .here)))))) | exact .app (.next (.next (.next (.next (.next (.next (.next .here))))))) | exact .app .in1 | exact .app .in2 | exact .app (.next .in1) | exact .next (.app .in1) | exact .next (.next (.app .in1)) | exact .next (.app .here) | exact .next (.next (.app .here)) | exact .next (.next (.next (.app .here))) | exact .next (.next (.next (.next (.app .here))))) rfl trivial rfl I34 rfl rfl rfl (by first | decide | (simp; done) | (simp; omega)) _ (by first | (simp only [List.set_cons_succ, List.set_cons_zero]; done) | (simp only [List.set_cons_succ, List.set_cons_zero]; exact rfl) | exact rfl) ?_
  refine G.nil ?_
  refine C.ret ?_
  -- end 
  refine Lv.cons (by simp) E29 (tryD_none W0 _ _) rfl ?_
  rintro e u2 L2 ⟨rfl, rfl, rfl⟩
  exact Lv.retL (Res.one (v := .int .i64 0) rfl (RV.cell At.here rfl Try.underlying34 rfl rfl)) (fun _ h => h.tail) ⟨hRr, rfl⟩
/-! ### The book -/
abbrev Bpg := Nat × Nat × Nat × List UInt8
def bslot : Option Bpg → Value
  | none => nilS
  | some e => .slice (some ⟨e.1, 0, none⟩) e.2.2.2.length e.2.1
def bblk (e : Bpg) : Nat × SObj := (e.1, .row (bytesV e.2.2.2) 5 e.2.2.1)
def bpool (ps : List (Option Bpg)) : Seg := ps.filterMap (·.map bblk)
def BookIs (bb : Nat) (ps : List (Option Bpg)) (bad : Int) (s : Seg) : Prop := ps.length = 96 ∧ (∀ e, some e ∈ ps → e.2.2.2.length ≤ e.2.1 ∧ e.2.1 ≤ e.2.2.1 ∧ e.2.2.2.length ≤ 1000000) ∧ s = (bb, .row (ps.map bslot ++ [.int .i64 bad]) 28 97) :: bpool ps
def bookR (ps : List (Option Bpg)) (bad : Int) : Ans := fun no => if no < 0 ∨ 95 < no then .error 3 else if bad ≠ 0 ∧ no = bad then .error 5 else match ps[no.toNat]! with
  | some e => .ok e.2.2.2
  | none => .ok zero256
theorem bslot_at {ps : List (Option Bpg)} {bad : Int} (h : ps.length = 96) {no : Int} (h0 : 0 ≤ no) (h1 : no ≤ 95) : (ps.map bslot ++ [Value.int .i64 bad])[0 + 0 + no.toNat * 1]? = some (bslot ps[no.toNat]!) := by
  have hlt : no.toNat < ps.length := by omega
  simp only [Nat.zero_add, Nat.mul_one]
  rw [List.getElem?_append_left (by simpa using hlt)]
  simp [hlt]
theorem bad_at {ps : List (Option Bpg)} {bad : Int} (h : ps.length = 96) : (ps.map bslot ++ [Value.int .i64 bad])[0 + 96]? = some (.int .i64 bad) := by
  rw [Nat.zero_add, List.getElem?_append_right (by simp [h])]
  simp [h]
theorem bpool_at {ps : List (Option Bpg)} {e : Bpg} (h : some e ∈ ps) (x : Nat × SObj) (L : List Seg) : ∃ u, At ((x :: bpool ps) :: L) e.1 (.row (bytesV e.2.2.2) 5 e.2.2.1) u := by
  have : bblk e ∈ bpool ps := List.mem_filterMap.2 ⟨some e, h, rfl⟩
  obtain ⟨s, t, hst⟩ := List.append_of_mem this
  rw [hst]
  exact ⟨_, At.mid (s1 := x :: s)⟩
section book
variable (W0 : World) (bb : Nat)
theorem book_out (L : List Seg) (v : Value) (no : Int) (hno : no < 0 ∨ 95 < no) :
    FnS Try.prog W0 14 #[v, .int .i64 no] L (fun e L' => L' = L ∧ e = .returned (.tuple #[nilS, .int .i64 3])) := by
  refine FnS.of (args := [v, .int .i64 no]) Try.func14 rfl rfl ?_
  refine C.seq ?_
  refine C.region ?_
  refine G.assignS rfl trivial rfl rfl rfl ?_
  refine G.assignI rfl trivial rfl rfl rfl ?_
  refine G.nil ?_
  refine C.seq ?_
  refine C.seq ?_
  refine C.region ?_
  refine G.moveI rfl trivial rfl rfl rfl ?_
  refine G.bin rfl trivial rfl rfl rfl rfl rfl ?_
  refine G.moveB rfl trivial rfl rfl rfl ?_
  refine G.fork (t := 8) _ rfl ?_ ?_
  · intro hg8
    refine G.skip rfl rfl rfl rfl rfl rfl ?_
    refine G.skip rfl rfl rfl rfl rfl rfl ?_
    first | refine G.pickT rfl trivial rfl rfl rfl rfl ?_ | refine G.pickF rfl trivial rfl rfl rfl rfl ?_
    refine G.nil ?_
    refine C.condT rfl ?_
    refine C.seq ?_
    refine C.region ?_
    refine G.assignS rfl trivial rfl rfl rfl ?_
    refine G.assignI rfl trivial rfl rfl rfl ?_
    refine G.nil ?_
    refine C.ret ?_
    -- end g8T
    exact ⟨rfl, _, Res.of (rs := [.tmp 4, .tmp 5]) rfl rfl, rfl, rfl⟩
  · intro hg8
    refine G.moveI rfl ⟨_, rfl, rfl, rfl⟩ rfl rfl rfl ?_
    refine G.bin rfl ⟨_, rfl, rfl, rfl⟩ rfl rfl rfl rfl rfl ?_
    first | refine G.pickT rfl trivial rfl rfl rfl rfl ?_ | refine G.pickF rfl trivial rfl rfl rfl rfl ?_
    refine G.nil ?_
    refine C.cond _ rfl ?_ ?_
    · intro hc0
      refine C.seq ?_
      refine C.region ?_
      refine G.assignS rfl trivial rfl rfl rfl ?_
      refine G.assignI rfl trivial rfl rfl rfl ?_
      refine G.nil ?_
      refine C.ret ?_
      -- end g8Fc0T
      exact ⟨rfl, _, Res.of (rs := [.tmp 4, .tmp 5]) rfl rfl, rfl, rfl⟩
    · intro hc0
      omega
theorem book_bad (L : List Seg) (ps : List (Option Bpg)) (bad : Int) (s : Seg) (h : BookIs bb ps bad s) (no : Int) (hno : ¬ (no < 0 ∨ 95 < no)) (hbad : bad ≠ 0 ∧ no = bad) :
    FnS Try.prog W0 14 #[ptr bb, .int .i64 no] (s :: L) (fun e L' => L' = s :: L ∧ e = .returned (.tuple #[nilS, .int .i64 5])) := by
  obtain ⟨hl, hcaps, rfl⟩ := h
  refine FnS.of (args := [ptr bb, .int .i64 no]) Try.func14 rfl rfl ?_
  refine C.seq ?_
  refine C.region ?_
  refine G.assignS rfl trivial rfl rfl rfl ?_
  refine G.assignI rfl trivial rfl rfl rfl ?_
  refine G.nil ?_
  refine C.seq ?_
  refine C.seq ?_
  refine C.region ?_
  refine G.moveI rfl trivial rfl rfl rfl ?_
  refine G.bin rfl trivial rfl rfl rfl rfl rfl ?_
  refine G.moveB rfl trivial rfl rfl rfl ?_
  refine G.no (t := 8) rfl (by omega) ?_
  refine G.moveI rfl ⟨_, rfl, rfl, rfl⟩ rfl rfl rfl ?_
  refine G.bin rfl ⟨_, rfl, rfl, rfl⟩ rfl rfl rfl rfl rfl ?_
  first | refine G.pickT rfl trivial rfl rfl rfl rfl ?_ | refine G.pickF rfl trivial rfl rfl rfl rfl ?_
  refine G.nil ?_
  refine C.no rfl (by omega) ?_
  refine C.skip ?_
  refine C.seq ?_
  refine C.seq ?_
  refine C.region ?_
  refine G.moveP rfl trivial rfl rfl rfl ?_
  first | refine G.nilCheckP rfl trivial rfl rfl rfl ?_ | refine G.nilCheckF rfl trivial rfl rfl rfl ?_
  refine G.fieldAddr rfl trivial rfl rfl Try.underlying28 rfl I3 rfl rfl ?_
  refine G.loadAt .here rfl trivial rfl rfl Try.underlying3 rfl rfl (bad_at hl) ?_
  refine G.bin rfl trivial rfl rfl rfl rfl rfl ?_
  refine G.moveB rfl trivial rfl rfl rfl ?_
  refine G.yes (t := 17) rfl hbad.1 ?_
  refine G.moveI rfl ⟨_, rfl, rfl, rfl⟩ rfl rfl rfl ?_
  refine G.moveP rfl ⟨_, rfl, rfl, rfl⟩ rfl rfl rfl ?_
  first | refine G.nilCheckP rfl ⟨_, rfl, rfl, rfl⟩ rfl rfl rfl ?_ | refine G.nilCheckF rfl ⟨_, rfl, rfl, rfl⟩ rfl rfl rfl ?_
  refine G.fieldAddr rfl ⟨_, rfl, rfl, rfl⟩ rfl rfl Try.underlying28 rfl I3 rfl rfl ?_
  refine G.loadAt .here rfl ⟨_, rfl, rfl, rfl⟩ rfl rfl Try.underlying3 rfl rfl (bad_at hl) ?_
  refine G.bin rfl ⟨_, rfl, rfl, rfl⟩ rfl rfl rfl rfl rfl ?_
  first | refine G.pickT rfl trivial rfl rfl rfl rfl ?_ | refine G.pickF rfl trivial rfl rfl rfl rfl ?_
  refine G.nil ?_
  refine C.yes rfl hbad.2 ?_
  refine C.seq ?_
  refine C.region ?_
  refine G.assignS rfl trivial rfl rfl rfl ?_
  refine G.assignI rfl trivial rfl rfl rfl ?_
  refine G.nil ?_
  refine C.ret ?_
  -- end 
  exact ⟨rfl, _, Res.of (rs := [.tmp 4, .tmp 5]) rfl rfl, rfl, rfl⟩
theorem book_none (L : List Seg) (ps : List (Option Bpg)) (bad : Int) (s : Seg) (h : BookIs bb ps bad s) (no : Int) (hno : ¬ (no < 0 ∨ 95 < no)) (hbad : ¬ (bad ≠ 0 ∧ no = bad)) (hp : ps[no.toNat]! = none) :
    FnS Try.prog W0 14 #[ptr bb, .int .i64 no] (s :: L) (fun e L' => ∃ a c so, OwnS (.slice a zero256.length c) zero256.length (bytesV zero256) 5 1 so ∧ L' = so :: s :: L ∧ e = .returned (.tuple #[.slice a zero256.length c, .int .i64 0])) := by
  obtain ⟨hl, hcaps, rfl⟩ := h
  have hsl := bslot_at (bad := bad) hl (no := no) (by omega) (by omega)
  rw [hp] at hsl
  refine FnS.of (args := [ptr bb, .int .i64 no]) Try.func14 rfl rfl ?_
  refine C.seq ?_
  refine C.region ?_
  refine G.assignS rfl trivial rfl rfl rfl ?_
  refine G.assignI rfl trivial rfl rfl rfl ?_
  refine G.nil ?_
  refine C.seq ?_
  refine C.seq ?_
  refine C.region ?_
  refine G.moveI rfl trivial rfl rfl rfl ?_
  refine G.bin rfl trivial rfl rfl rfl rfl rfl ?_
  refine G.moveB rfl trivial rfl rfl rfl ?_
  refine G.no (t := 8) rfl (by omega) ?_
  refine G.moveI rfl ⟨_, rfl, rfl, rfl⟩ rfl rfl rfl ?_
  refine G.bin rfl ⟨_, rfl, rfl, rfl⟩ rfl rfl rfl rfl rfl ?_
  first | refine G.pickT rfl trivial rfl rfl rfl rfl ?_ | refine G.pickF rfl trivial rfl rfl rfl rfl ?_
  refine G.nil ?_
  refine C.no rfl (by omega) ?_
  refine C.skip ?_
  refine C.seq ?_
  refine C.seq ?_
  refine C.region ?_
  refine G.moveP rfl trivial rfl rfl rfl ?_
  first | refine G.nilCheckP rfl trivial rfl rfl rfl ?_ | refine G.nilCheckF rfl trivial rfl rfl rfl ?_
  refine G.fieldAddr rfl trivial rfl rfl Try.underlying28 rfl I3 rfl rfl ?_
  refine G.loadAt .here rfl trivial rfl rfl Try.underlying3 rfl rfl (bad_at hl) ?_
  refine G.bin rfl trivial rfl rfl rfl rfl rfl ?_
  refine G.moveB rfl trivial rfl rfl rfl ?_
  refine G.fork (t := 17) _ rfl ?_ ?_
  · intro hg17
    refine G.moveI rfl ⟨_, rfl, rfl, rfl⟩ rfl rfl rfl ?_
    refine G.moveP rfl ⟨_, rfl, rfl, rfl⟩ rfl rfl rfl ?_
    first | refine G.nilCheckP rfl ⟨_, rfl, rfl, rfl⟩ rfl rfl rfl ?_ | refine G.nilCheckF rfl ⟨_, rfl, rfl, rfl⟩ rfl rfl rfl ?_
    refine G.fieldAddr rfl ⟨_, rfl, rfl, rfl⟩ rfl rfl Try.underlying28 rfl I3 rfl rfl ?_
    refine G.loadAt .here rfl ⟨_, rfl, rfl, rfl⟩ rfl rfl Try.underlying3 rfl rfl (bad_at hl) ?_
    refine G.bin rfl ⟨_, rfl, rfl, rfl⟩ rfl rfl rfl rfl rfl ?_
    first | refine G.pickT rfl trivial rfl rfl rfl rfl ?_ | refine G.pickF rfl trivial rfl rfl rfl rfl ?_
    refine G.nil ?_
    refine C.no rfl (fun h => hbad ⟨hg17, h⟩) ?_
    refine C.skip ?_
    refine C.seq ?_
    refine C.seq ?_
    refine C.region ?_
    refine G.moveP rfl trivial rfl rfl rfl ?_
    refine G.moveI rfl trivial rfl rfl rfl ?_
    first | refine G.nilCheckP rfl trivial rfl rfl rfl ?_ | refine G.nilCheckF rfl trivial rfl rfl rfl ?_
    refine G.fieldAddr rfl trivial rfl rfl Try.underlying28 rfl I26 rfl rfl ?_
    refine G.indexAddrArr rfl trivial rfl rfl Try.underlying26 I22 rfl rfl (by omega) ?_
    refine G.loadAt (v := nilS) .here rfl trivial rfl rfl Try.underlying22 rfl rfl hsl ?_
    refine G.slEq rfl trivial rfl rfl Try.underlying22 rfl rfl ?_
    refine G.fix (d := 31) (v := .bool true) rfl ?_
    refine G.nil ?_
    refine C.condT rfl ?_
    refine C.seq ?_
    refine C.region ?_
    refine G.makeBytes (l := 256) (c := 256) rfl trivial rfl rfl Try.underlying22 I5 rfl rfl (by decide) ?_
    intro b32
    refine G.assignS rfl trivial rfl rfl rfl ?_
    refine G.assignI rfl trivial rfl rfl rfl ?_
    refine G.nil ?_
    refine C.ret ?_
    -- end g17T
    refine ⟨rfl, _, Res.of (rs := [.tmp 4, .tmp 5]) rfl rfl, some ⟨b32, 0, none⟩, 256, [(b32, .row (bytesV zero256) 5 256)], ?_, rfl, ?_⟩
    · rw [zero256_length]; exact OwnS.mk (by rw [bytesV_length, zero256_length]) (Nat.le_refl _) (Nat.le_refl _)
    · rw [zero256_length]; rfl
  · intro hg17
    refine G.skip rfl rfl rfl rfl rfl rfl ?_
    refine G.skip rfl rfl rfl rfl rfl rfl ?_
    refine G.skip rfl rfl rfl rfl rfl rfl ?_
    refine G.skip rfl rfl rfl rfl rfl rfl ?_
    refine G.skip rfl rfl rfl rfl rfl rfl ?_
    refine G.skip rfl rfl rfl rfl rfl rfl ?_
    first | refine G.pickT rfl trivial rfl rfl rfl rfl ?_ | refine G.pickF rfl trivial rfl rfl rfl rfl ?_
    refine G.nil ?_
    refine C.condF rfl ?_
    refine C.skip ?_
    refine C.seq ?_
    refine C.seq ?_
    refine C.region ?_
    refine G.moveP rfl trivial rfl rfl rfl ?_
    refine G.moveI rfl trivial rfl rfl rfl ?_
    first | refine G.nilCheckP rfl trivial rfl rfl rfl ?_ | refine G.nilCheckF rfl trivial rfl rfl rfl ?_
    refine G.fieldAddr rfl trivial rfl rfl Try.underlying28 rfl I26 rfl rfl ?_
    refine G.indexAddrArr rfl trivial rfl rfl Try.underlying26 I22 rfl rfl (by omega) ?_
    refine G.loadAt (v := nilS) .here rfl trivial rfl rfl Try.underlying22 rfl rfl hsl ?_
    refine G.slEq rfl trivial rfl rfl Try.underlying22 rfl rfl ?_
    refine G.fix (d := 31) (v := .bool true) rfl ?_
    refine G.nil ?_
    refine C.condT rfl ?_
    refine C.seq ?_
    refine C.region ?_
    refine G.makeBytes (l := 256) (c := 256) rfl trivial rfl rfl Try.underlying22 I5 rfl rfl (by decide) ?_
    intro b32
    refine G.assignS rfl trivial rfl rfl rfl ?_
    refine G.assignI rfl trivial rfl rfl rfl ?_
    refine G.nil ?_
    refine C.ret ?_
    -- end g17F
    refine ⟨rfl, _, Res.of (rs := [.tmp 4, .tmp 5]) rfl rfl, some ⟨b32, 0, none⟩, 256, [(b32, .row (bytesV zero256) 5 256)], ?_, rfl, ?_⟩
    · rw [zero256_length]; exact OwnS.mk (by rw [bytesV_length, zero256_length]) (Nat.le_refl _) (Nat.le_refl _)
    · rw [zero256_length]; rfl
theorem book_some (L : List Seg) (ps : List (Option Bpg)) (bad : Int) (s : Seg) (h : BookIs bb ps bad s) (no : Int) (hno : ¬ (no < 0 ∨ 95 < no)) (hbad : ¬ (bad ≠ 0 ∧ no = bad)) (ep : Bpg) (hp : ps[no.toNat]! = some ep) :
    FnS Try.prog W0 14 #[ptr bb, .int .i64 no] (s :: L) (fun e L' => ∃ a c so, OwnS (.slice a ep.2.2.2.length c) ep.2.2.2.length (bytesV ep.2.2.2) 5 1 so ∧ L' = so :: s :: L ∧ e = .returned (.tuple #[.slice a ep.2.2.2.length c, .int .i64 0])) := by
  obtain ⟨hl, hcaps, rfl⟩ := h
  have hsl := bslot_at (bad := bad) hl (no := no) (by omega) (by omega)
  rw [hp] at hsl
  have hmem : some ep ∈ ps := by rw [← hp, getElem!_pos ps no.toNat (by omega)]; exact List.getElem_mem _
  obtain ⟨hc1, hc2, hc3⟩ := hcaps ep hmem
  obtain ⟨u, hat⟩ := bpool_at hmem (bb, .row (ps.map bslot ++ [.int .i64 bad]) 28 97) L
  refine FnS.of (args := [ptr bb, .int .i64 no]) Try.func14 rfl rfl ?_
  refine C.seq ?_
  refine C.region ?_
  refine G.assignS rfl trivial rfl rfl rfl ?_
  refine G.assignI rfl trivial rfl rfl rfl ?_
  refine G.nil ?_
  refine C.seq ?_
  refine C.seq ?_
  refine C.region ?_
  refine G.moveI rfl trivial rfl rfl rfl ?_
  refine G.bin rfl trivial rfl rfl rfl rfl rfl ?_
  refine G.moveB rfl trivial rfl rfl rfl ?_
  refine G.no (t := 8) rfl (by omega) ?_
  refine G.moveI rfl ⟨_, rfl, rfl, rfl⟩ rfl rfl rfl ?_
  refine G.bin rfl ⟨_, rfl, rfl, rfl⟩ rfl rfl rfl rfl rfl ?_
  first | refine G.pickT rfl trivial rfl rfl rfl rfl ?_ | refine G.pickF rfl trivial rfl rfl rfl rfl ?_
  refine G.nil ?_
  refine C.no rfl (by omega) ?_
  refine C.skip ?_
  refine C.seq ?_
  refine C.seq ?_
  refine C.region ?_
  refine G.moveP rfl trivial rfl rfl rfl ?_
  first | refine G.nilCheckP rfl trivial rfl rfl rfl ?_ | refine G.nilCheckF rfl trivial rfl rfl rfl ?_
  refine G.fieldAddr rfl trivial rfl rfl Try.underlying28 rfl I3 rfl rfl ?_
  refine G.loadAt .here rfl trivial rfl rfl Try.underlying3 rfl rfl (bad_at hl) ?_
  refine G.bin rfl trivial rfl rfl rfl rfl rfl ?_
  refine G.moveB rfl trivial rfl rfl rfl ?_
  refine G.fork (t := 17) _ rfl ?_ ?_
  · intro hg17
    refine G.moveI rfl ⟨_, rfl, rfl, rfl⟩ rfl rfl rfl ?_
    refine G.moveP rfl ⟨_, rfl, rfl, rfl⟩ rfl rfl rfl ?_
    first | refine G.nilCheckP rfl ⟨_, rfl, rfl, rfl⟩ rfl rfl rfl ?_ | refine G.nilCheckF rfl ⟨_, rfl, rfl, rfl⟩ rfl rfl rfl ?_
    refine G.fieldAddr rfl ⟨_, rfl, rfl, rfl⟩ rfl rfl Try.underlying28 rfl I3 rfl rfl ?_
    refine G.loadAt .here rfl ⟨_, rfl, rfl, rfl⟩ rfl rfl Try.underlying3 rfl rfl (bad_at hl) ?_
    refine G.bin rfl ⟨_, rfl, rfl, rfl⟩ rfl rfl rfl rfl rfl ?_
    first | refine G.pickT rfl trivial rfl rfl rfl rfl ?_ | refine G.pickF rfl trivial rfl rfl rfl rfl ?_
    refine G.nil ?_
    refine C.no rfl (fun h => hbad ⟨hg17, h⟩) ?_
    refine C.skip ?_
    refine C.seq ?_
    refine C.seq ?_
    refine C.region ?_
    refine G.moveP rfl trivial rfl rfl rfl ?_
    refine G.moveI rfl trivial rfl rfl rfl ?_
    first | refine G.nilCheckP rfl trivial rfl rfl rfl ?_ | refine G.nilCheckF rfl trivial rfl rfl rfl ?_
    refine G.fieldAddr rfl trivial rfl rfl Try.underlying28 rfl I26 rfl rfl ?_
    refine G.indexAddrArr rfl trivial rfl rfl Try.underlying26 I22 rfl rfl (by omega) ?_
    refine G.loadAt (v := .slice (some ⟨ep.1, 0, none⟩) ep.2.2.2.length ep.2.1) .here rfl trivial rfl rfl Try.underlying22 rfl rfl hsl ?_
    refine G.slEq rfl trivial rfl rfl Try.underlying22 rfl rfl ?_
    refine G.fix (d := 31) (v := .bool false) rfl ?_
    refine G.nil ?_
    refine C.condF rfl ?_
    refine C.skip ?_
    refine C.seq ?_
    refine C.region ?_
    refine G.moveP rfl trivial rfl rfl rfl ?_
    refine G.moveI rfl trivial rfl rfl rfl ?_
    first | refine G.nilCheckP rfl trivial rfl rfl rfl ?_ | refine G.nilCheckF rfl trivial rfl rfl rfl ?_
    refine G.fieldAddr rfl trivial rfl rfl Try.underlying28 rfl I26 rfl rfl ?_
    refine G.indexAddrArr rfl trivial rfl rfl Try.underlying26 I22 rfl rfl (by omega) ?_
    refine G.loadAt (v := .slice (some ⟨ep.1, 0, none⟩) ep.2.2.2.length ep.2.1) .here rfl trivial rfl rfl Try.underlying22 rfl rfl hsl ?_
    refine G.appendNil rfl trivial rfl rfl Try.underlying22 Try.underlying22 I5 rfl (by decide) rfl (by decide) (Rd.row0 hat) (by simp) bytesV_ok (by omega) ?_
    intro v39 s39 hv39
    obtain ⟨a39, c39, rfl, _⟩ := hv39.form
    refine G.assignS rfl trivial rfl rfl rfl ?_
    refine G.assignI rfl trivial rfl rfl rfl ?_
    refine G.nil ?_
    refine C.ret ?_
    -- end g17T
    exact ⟨rfl, _, Res.of (rs := [.tmp 4, .tmp 5]) rfl rfl, a39, c39, s39, hv39, rfl, rfl⟩
  · intro hg17
    refine G.skip rfl rfl rfl rfl rfl rfl ?_
    refine G.skip rfl rfl rfl rfl rfl rfl ?_
    refine G.skip rfl rfl rfl rfl rfl rfl ?_
    refine G.skip rfl rfl rfl rfl rfl rfl ?_
    refine G.skip rfl rfl rfl rfl rfl rfl ?_
    refine G.skip rfl rfl rfl rfl rfl rfl ?_
    first | refine G.pickT rfl trivial rfl rfl rfl rfl ?_ | refine G.pickF rfl trivial rfl rfl rfl rfl ?_
    refine G.nil ?_
    refine C.condF rfl ?_
    refine C.skip ?_
    refine C.seq ?_
    refine C.seq ?_
    refine C.region ?_
    refine G.moveP rfl trivial rfl rfl rfl ?_
    refine G.moveI rfl trivial rfl rfl rfl ?_
    first | refine G.nilCheckP rfl trivial rfl rfl rfl ?_ | refine G.nilCheckF rfl trivial rfl rfl rfl ?_
    refine G.fieldAddr rfl trivial rfl rfl Try.underlying28 rfl I26 rfl rfl ?_
    refine G.indexAddrArr rfl trivial rfl rfl Try.underlying26 I22 rfl rfl (by omega) ?_
    refine G.loadAt (v := .slice (some ⟨ep.1, 0, none⟩) ep.2.2.2.length ep.2.1) .here rfl trivial rfl rfl Try.underlying22 rfl rfl hsl ?_
    refine G.slEq rfl trivial rfl rfl Try.underlying22 rfl rfl ?_
    refine G.fix (d := 31) (v := .bool false) rfl ?_
    refine G.nil ?_
    refine C.condF rfl ?_
    refine C.skip ?_
    refine C.seq ?_
    refine C.region ?_
    refine G.moveP rfl trivial rfl rfl rfl ?_
    refine G.moveI rfl trivial rfl rfl rfl ?_
    first | refine G.nilCheckP rfl trivial rfl rfl rfl ?_ | refine G.nilCheckF rfl trivial rfl rfl rfl ?_
    refine G.fieldAddr rfl trivial rfl rfl Try.underlying28 rfl I26 rfl rfl ?_
    refine G.indexAddrArr rfl trivial rfl rfl Try.underlying26 I22 rfl rfl (by omega) ?_
    refine G.loadAt (v := .slice (some ⟨ep.1, 0, none⟩) ep.2.2.2.length ep.2.1) .here rfl trivial rfl rfl Try.underlying22 rfl rfl hsl ?_
    refine G.appendNil rfl trivial rfl rfl Try.underlying22 Try.underlying22 I5 rfl (by decide) rfl (by decide) (Rd.row0 hat) (by simp) bytesV_ok (by omega) ?_
    intro v39 s39 hv39
    obtain ⟨a39, c39, rfl, _⟩ := hv39.form
    refine G.assignS rfl trivial rfl rfl rfl ?_
    refine G.assignI rfl trivial rfl rfl rfl ?_
    refine G.nil ?_
    refine C.ret ?_
    -- end g17F
    exact ⟨rfl, _, Res.of (rs := [.tmp 4, .tmp 5]) rfl rfl, a39, c39, s39, hv39, rfl, rfl⟩
theorem book_src {ps : List (Option Bpg)} {bad : Int} {s : Seg} (h : BookIs bb ps bad s) : Src W0 25 14 (ptr bb) s (bookR ps bad) := by
  refine ⟨E14, MethP.of (by kernel_rfl) Try.underlying25, fun L no _ => ?_, fun no xs hR => ?_, fun no c hR => ?_⟩
  · unfold bookR
    by_cases h1 : no < 0 ∨ 95 < no
    · rw [if_pos h1]; exact book_out W0 _ _ no h1
    · rw [if_neg h1]
      by_cases h2 : bad ≠ 0 ∧ no = bad
      · rw [if_pos h2]; exact book_bad W0 bb L ps bad s h no h1 h2
      · rw [if_neg h2]
        cases hp : ps[no.toNat]! with
        | none => exact book_none W0 bb L ps bad s h no h1 h2 hp
        | some ep => exact book_some W0 bb L ps bad s h no h1 h2 ep hp
  · unfold bookR at hR
    split at hR
    · cases hR
    · split at hR
      · cases hR
      · split at hR
        · rename_i hin _ e he
          cases hR
          have hlt : no.toNat < ps.length := by rw [h.1]; omega
          exact (h.2.1 e (by rw [← he, getElem!_pos ps no.toNat hlt]; exact List.getElem_mem _)).2.2
        · rw [← Except.ok.inj hR, zero256_length]; decide
  · unfold bookR at hR
    split at hR
    · cases hR; decide
    · split at hR
      · cases hR; decide
      · split at hR
        · exact absurd hR (by simp)
        · exact absurd hR (by simp)
end book
end Sht
end Go.Proofs.Ytgfdghhojnmaoaa
