/-
  Waits: what came in; begun, WaitNone, WaitChain, WaitNever walked.
-/
import Derived.Test.YtomiidlbfcfpiaaWa6
namespace Go.Proofs.Ytomiidlbfcfpiaa
open Go Go.SL Go.RowKit Go.Sort Go.Deep

/-- kind, transaction, and for whom: place, room, numbers -/
abbrev WOp := Int × Int × Option Addr × Nat × List Int
def wopC (o : WOp) : List Value := [.int .i64 o.1, .int .i64 o.2.1, .slice o.2.2.1 o.2.2.2.2.length o.2.2.2.1]
theorem wopC_ok (o : WOp) : ∀ v ∈ wopC o, cellsOk v = true := by
  intro v hv
  simp only [wopC, List.mem_cons, List.not_mem_nil, or_false] at hv
  rcases hv with rfl | rfl | rfl <;> rfl
def WOk (W : World) (o : WOp) : Prop := o.2.2.2.2.length ≤ o.2.2.2.1 ∧ o.2.2.2.1 ≤ maxLen ∧ ∀ L, Rd W L o.2.2.1 (o.2.2.2.2.map (Value.int .i64))
def WOps (W : World) (a : Option Addr) (len cap : Nat) (ls : List WOp) : Prop :=
  len = ls.length ∧ len ≤ cap ∧ cap ≤ maxLen ∧ (∀ L, Rd W L a (ls.flatMap wopC)) ∧ ∀ o ∈ ls, WOk W o
theorem open_wops {H : Type} {enc : TypeId × Value → H} {P : Program} {W : World} {base : Nat} {held : Bool} {t e i0 i1 i2 q : TypeId} {f0 f1 f2 : Field} {fuel len cap : Nat} {a : Option Addr} {x : DataW H × List MemPlace} (ht : P.underlying t = some (.slice e)) (he : P.underlying e = some (.struct #[f0, f1, f2])) (hc : P.cellsOf e = 3)
    (hi : P.underlying i0 = some (.int .i64)) (hci : P.cellsOf i0 = 1) (hi1 : P.underlying i1 = some (.int .i64)) (hci1 : P.cellsOf i1 = 1) (hi2 : P.underlying i2 = some (.slice q)) (hci2 : P.cellsOf i2 = 1) (hq : P.underlying q = some (.int .i64)) (hcq : P.cellsOf q = 1)
    (e0 : f0.type = i0 ∧ f0.offset = 0) (e1 : f1.type = i1 ∧ f1.offset = 1) (e2 : f2.type = i2 ∧ f2.offset = 2)
    (h : DataW.trod enc P W base (fun _ => true) held fuel t [.slice a len cap] = some x) : ∃ ls, WOps W a len cap ls := by
  obtain ⟨ls, h1, h2, h3, h4, h5⟩ := open_structs (α := WOp) wopC (WOk W) ht he (by omega) (fun cs n hlen hf => by
    rw [hc] at hlen
    match cs, hlen with
    | [u, v, s], _ =>
      obtain ⟨y0, hy0⟩ := hf 0 f0 rfl
      obtain ⟨y1, hy1⟩ := hf 1 f1 rfl
      obtain ⟨y2, hy2⟩ := hf 2 f2 rfl
      rw [e0.1, e0.2, hci] at hy0
      rw [e1.1, e1.2, hci1] at hy1
      rw [e2.1, e2.2, hci2] at hy2
      obtain ⟨n0, g0, _, w0⟩ := DataW.trod_int hi hy0
      obtain ⟨n1, g1, _, w1⟩ := DataW.trod_int hi1 hy1
      simp only [List.drop_zero, List.take_succ_cons, List.take_zero, List.cons.injEq, and_true, List.drop_succ_cons] at g0 g1
      subst g0 g1
      rcases ChangeShapes.open_ints hi2 hq hcq hy2 with ⟨hcs, _⟩ | ⟨y, l, c, zs, hcs, _, hl, hm, hz, _, hcell, hwz⟩
      · simp only [List.drop_succ_cons, List.drop_zero, List.take_succ_cons, List.take_zero, List.cons.injEq, and_true] at hcs
        subst hcs
        exact ⟨(n0, n1, none, 0, []), rfl, Nat.le_refl _, by simp, fun L => Rd.nil⟩
      · simp only [List.drop_succ_cons, List.drop_zero, List.take_succ_cons, List.take_zero, List.cons.injEq, and_true] at hcs
        subst hcs
        obtain ⟨xs, h1, h2, h3, _, h4⟩ := row_ints (W := W) (a := some y) (len := l) (cap := c) (zs := zs) (.inr ⟨y, rfl, hl, hm, by simpa using hz, hcell, hwz⟩)
        subst h1
        exact ⟨(n0, n1, some y, c, xs), rfl, h2, h3, h4⟩) h
  exact ⟨ls, h1, h2, h3, h4, fun o ho => (h5 o ho).1⟩
theorem cellW {W0 : World} {L : List Seg} {p o : Nat} {ls : List WOp} (r : ∀ L, Rd W0 L (some ⟨p, o, none⟩) (ls.flatMap wopC)) {i : Nat} (h : i < ls.length) (w : World) (hm : Mem W0 w L) : ∀ j v, (wopC ls[i])[j]? = some v → w.cell? ⟨p, o + (i : Int).toNat * 3 + j, none⟩ = some v :=
  Rd.chunk_at r (fun _ _ => rfl) h w hm
section wait
variable (W0 : World) (L0 : List Seg) (bw : Nat)
theorem set_yes (g : Int → List Int) (N : Nat) (s1 s2 s3 : Seg) (h : WtIs bw g N s1 s2 s3) (hN : N ≤ 1000) (t : Int) (a : Option Addr) (c : Nat) (xs : List Int) (hxs : xs.length ≤ 1000) (hr : Rd W0 (s1 :: s2 :: s3 :: L0) a (xs.map (Value.int .i64))) (hno : ¬ Rch g xs t) :
    FnS Try.prog W0 27 #[.pointer (some ⟨bw, 0, none⟩), .int .i64 t, .slice a xs.length c] (s1 :: s2 :: s3 :: L0)
      (fun e L' => ∃ (s1' s2' s3' : Seg), WtIs bw (setG g t (insAll xs)) (N + 1) s1' s2' s3' ∧ L' = s1' :: s2' :: s3' :: L0 ∧ e = .returned (.bool true)) :=
  (set_spec W0 L0 bw g N s1 s2 s3 h hN t a c xs hxs hr).mono fun e L' ⟨b, g', s1', s2', s3', hb, h1, h2, h3⟩ => by
    rcases hb with ⟨rfl, _, rfl⟩ | ⟨_, hy, _⟩
    · exact ⟨s1', s2', s3', h1, h2, h3⟩
    · exact absurd hy hno
theorem set_bad (g : Int → List Int) (N : Nat) (s1 s2 s3 : Seg) (h : WtIs bw g N s1 s2 s3) (hN : N ≤ 1000) (t : Int) (a : Option Addr) (c : Nat) (xs : List Int) (hxs : xs.length ≤ 1000) (hr : Rd W0 (s1 :: s2 :: s3 :: L0) a (xs.map (Value.int .i64))) (hyes : Rch g xs t) :
    FnS Try.prog W0 27 #[.pointer (some ⟨bw, 0, none⟩), .int .i64 t, .slice a xs.length c] (s1 :: s2 :: s3 :: L0)
      (fun e L' => ∃ (s1' s2' s3' : Seg), WtIs bw g (N + 1) s1' s2' s3' ∧ L' = s1' :: s2' :: s3' :: L0 ∧ e = .returned (.bool false)) :=
  (set_spec W0 L0 bw g N s1 s2 s3 h hN t a c xs hxs hr).mono fun e L' ⟨b, g', s1', s2', s3', hb, h1, h2, h3⟩ => by
    rcases hb with ⟨_, hn, _⟩ | ⟨rfl, _, rfl⟩
    · exact absurd hyes hn
    · exact ⟨s1', s2', s3', h1, h2, h3⟩
theorem round_val (g : Int → List Int) (N : Nat) (s1 s2 s3 : Seg) (h : WtIs bw g N s1 s2 s3) (hN : N ≤ 1000) (t : Int) (a : Option Addr) (c : Nat) (xs : List Int) (hxs : xs.length ≤ 100000) (hr : Rd W0 (s1 :: s2 :: s3 :: L0) a (xs.map (Value.int .i64))) (b : Bool) (hb : b = true ↔ Rch g xs t) :
    FnS Try.prog W0 44 #[.pointer (some ⟨bw, 0, none⟩), .int .i64 t, .slice a xs.length c] (s1 :: s2 :: s3 :: L0) (fun e L' => L' = s1 :: s2 :: s3 :: L0 ∧ e = .returned (.bool b)) :=
  (round_spec W0 L0 bw g N s1 s2 s3 h hN t a c xs hxs hr).mono fun e L' ⟨h1, b', h2, h3⟩ => ⟨h1, by rw [h3, show b' = b from Bool.eq_iff_iff.2 (h2.trans hb.symm)]⟩
end wait
/-! ### begun -/
abbrev g0 : Int → List Int := fun _ => []
abbrev g1 : Int → List Int := setG g0 1 (insAll [2])
abbrev g2 : Int → List Int := setG g1 2 (insAll [3, 3])
abbrev g3 : Int → List Int := clearG g2 2
abbrev g4 : Int → List Int := setG g3 3 (insAll [1])
theorem not_rch {g : Int → List Int} {on sl : List Int} {t : Int} (h1 : ∀ y ∈ on, y ∈ sl) (h2 : ∀ x ∈ sl, ∀ y ∈ g x, y ∈ sl) (h3 : t ∉ sl) : ¬ Rch g on t := fun h => h3 (h.closed h1 h2)
theorem b1 : ¬ Rch g0 [2] 1 := not_rch (sl := [2]) (by simp) (by simp) (by simp)
theorem b2 : ¬ Rch g1 [3, 3] 2 := not_rch (sl := [3]) (by simp) (by decide) (by simp)
theorem b3 : Rch g2 [1] 3 := .step (x := 2) (.step (x := 1) (.base (by simp)) (by decide)) (by decide)
theorem b4 : ¬ Rch g3 [1] 3 := not_rch (sl := [1]) (by simp) (by decide) (by simp)
section laws
variable (W0 : World)
end laws
end Go.Proofs.Ytomiidlbfcfpiaa
