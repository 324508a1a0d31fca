/-
  Locks: whom they tell of, in two ways the same; operations that came in; a text cut; two lists compared.
-/
import Derived.Test.YtomiidlbfcfpiaaLo8
namespace Go.Proofs.Ytomiidlbfcfpiaa
open Go Go.SL Go.RowKit Go.Sort Go.Deep

/-! ### What came in -/
/-- kind, mode, transaction, key -/
abbrev LOp := Int × Int × Int × ByteArray
def opC (o : LOp) : List Value := [.int .i64 o.1, .int .i64 o.2.1, .int .i64 o.2.2.1, .string o.2.2.2]
def wfI (n : Int) : Prop := -9223372036854775808 ≤ n ∧ n ≤ 9223372036854775807
def LOps (W : World) (a : Option Addr) (len cap : Nat) (ls : List LOp) : Prop :=
  len = ls.length ∧ len ≤ cap ∧ cap ≤ maxLen ∧ (∀ L, Rd W L a (ls.flatMap opC)) ∧ ∀ o ∈ ls, wfI o.1 ∧ wfI o.2.1 ∧ wfI o.2.2.1 ∧ o.2.2.2.size ≤ maxLen
theorem open_lops {H : Type} {enc : TypeId × Value → H} {P : Program} {W : World} {base : Nat} {held : Bool} {t e i0 i2 i3 : TypeId} {f0 f1 f2 f3 : Field} {fuel len cap : Nat} {a : Option Addr} {x : DataW H × List MemPlace} (ht : P.underlying t = some (.slice e)) (he : P.underlying e = some (.struct #[f0, f1, f2, f3])) (hc : P.cellsOf e = 4)
    (hi : P.underlying i0 = some (.int .i64)) (hci : P.cellsOf i0 = 1) (hi2 : P.underlying i2 = some (.int .i64)) (hci2 : P.cellsOf i2 = 1) (hi3 : P.underlying i3 = some .string) (hci3 : P.cellsOf i3 = 1)
    (e0 : f0.type = i0 ∧ f0.offset = 0) (e1 : f1.type = i0 ∧ f1.offset = 1) (e2 : f2.type = i2 ∧ f2.offset = 2) (e3 : f3.type = i3 ∧ f3.offset = 3)
    (h : DataW.trod enc P W base (fun _ => true) held fuel t [.slice a len cap] = some x) : ∃ ls, LOps W a len cap ls := by
  obtain ⟨ls, h1, h2, h3, h4, h5⟩ := open_structs (α := LOp) opC (fun o => wfI o.1 ∧ wfI o.2.1 ∧ wfI o.2.2.1 ∧ o.2.2.2.size ≤ maxLen) ht he (by omega) (fun cs n hlen hf => by
    rw [hc] at hlen
    match cs, hlen with
    | [u, v, w, s], _ =>
      obtain ⟨y0, hy0⟩ := hf 0 f0 rfl
      obtain ⟨y1, hy1⟩ := hf 1 f1 rfl
      obtain ⟨y2, hy2⟩ := hf 2 f2 rfl
      obtain ⟨y3, hy3⟩ := hf 3 f3 rfl
      rw [e0.1, e0.2, hci] at hy0
      rw [e1.1, e1.2, hci] at hy1
      rw [e2.1, e2.2, hci2] at hy2
      rw [e3.1, e3.2, hci3] at hy3
      obtain ⟨n0, g0, _, w0⟩ := DataW.trod_int hi hy0
      obtain ⟨n1, g1, _, w1⟩ := DataW.trod_int hi hy1
      obtain ⟨n2, g2, _, w2⟩ := DataW.trod_int hi2 hy2
      obtain ⟨n3, g3, _, w3⟩ := DataW.trod_string hi3 hy3
      simp only [List.drop_zero, List.take_succ_cons, List.take_zero, List.cons.injEq, and_true, List.drop_succ_cons] at g0 g1 g2 g3
      subst g0 g1 g2 g3
      exact ⟨(n0, n1, n2, n3), rfl, wf_i64 w0, wf_i64 w1, wf_i64 w2, w3⟩) h
  exact ⟨ls, h1, h2, h3, h4, fun o ho => (h5 o ho).1⟩
section ref
variable (W0 : World) (L : List Seg)
theorem cut_spec (s : ByteArray) (n : Nat) : FnS Try.prog W0 10 #[.string s, .int .i64 (n : Int)] L (fun e L' => L' = L ∧ ∃ s', e = .returned (.string s')) := by
  refine FnS.of (args := [.string s, .int .i64 (n : Int)]) Try.func10 rfl rfl ?_
  refine C.seq ?_
  refine C.region ?_
  refine G.assignT rfl trivial rfl rfl rfl ?_
  refine G.nil ?_
  refine C.seq ?_
  refine C.seq ?_
  refine C.region ?_
  refine G.moveT rfl trivial rfl rfl rfl ?_
  refine G.lenStr rfl trivial rfl rfl Try.underlying9 rfl ?_
  refine G.moveI rfl trivial rfl rfl rfl ?_
  refine G.bin rfl trivial rfl rfl rfl rfl rfl ?_
  refine G.nil ?_
  refine C.cond _ rfl ?_ ?_
  · intro hc0
    refine C.seq ?_
    refine C.region ?_
    refine G.moveT rfl trivial rfl rfl rfl ?_
    refine G.moveI rfl trivial rfl rfl rfl ?_
    refine G.sliceStrH rfl trivial rfl rfl Try.underlying9 rfl rfl (by omega) ?_
    refine G.assignT rfl trivial rfl rfl rfl ?_
    refine G.nil ?_
    refine C.ret ?_
    -- end c0T
    exact ⟨rfl, _, Res.of (rs := [.tmp 4]) rfl rfl, rfl, _, rfl⟩
  · intro hc0
    refine C.skip ?_
    refine C.seq ?_
    refine C.region ?_
    refine G.moveT rfl trivial rfl rfl rfl ?_
    refine G.assignT rfl trivial rfl rfl rfl ?_
    refine G.nil ?_
    refine C.ret ?_
    -- end c0F
    exact ⟨rfl, _, Res.of (rs := [.tmp 4]) rfl rfl, rfl, _, rfl⟩
end ref
end Go.Proofs.Ytomiidlbfcfpiaa
