/-
  The device's functions walked: a new one, what is read, what is written, what is dead.
-/
import Derived.Test.YtoegcjgdaikfiaaDv0
namespace Go.Proofs.Ytoegcjgdaikfiaa
open Go Go.SL Go.RowKit

abbrev ptr (b : Nat) : Value := .pointer (some ⟨b, 0, none⟩)
theorem clone_spec (W0 : World) (L : List Seg) (a : Addr) (l c : Nat) (xs : List UInt8) (hl : l = xs.length) (hx : xs.length ≤ 1000000) (hr : Rd W0 L (some a) (bytesV xs)) :
    FnS Try.prog W0 26 #[.slice (some a) l c] L (fun e L' => ∃ v seg, OwnS v l (bytesV xs) 5 1 seg ∧ L' = seg :: L ∧ e = .returned v) := by
  refine FnS.of (args := [.slice (some a) l c]) Try.func26 rfl rfl ?_
  refine C.seq ?_
  refine C.region ?_
  refine G.assignS rfl trivial rfl rfl rfl ?_
  refine G.nil ?_
  refine C.seq ?_
  refine C.seq ?_
  refine C.region ?_
  refine G.moveS rfl trivial rfl rfl rfl ?_
  refine G.slEq rfl trivial rfl rfl Try.underlying25 rfl rfl ?_
  refine G.nil ?_
  refine C.condF rfl ?_
  refine C.skip ?_
  refine C.seq ?_
  refine C.region ?_
  refine G.emptySlice rfl trivial rfl rfl Try.underlying25 I5 ?_
  intro b5
  refine G.moveS rfl trivial rfl rfl rfl ?_
  refine G.append (OwnS.empty b5 5 1) rfl trivial rfl rfl Try.underlying25 Try.underlying25 I5 rfl (by decide) rfl rfl (by decide) hr.cons (by simp [hl]) bytesV_ok (by omega) ?_
  intro v seg hv
  rw [Nat.zero_add, List.nil_append] at hv
  obtain ⟨a7, c7, rfl, hrd7⟩ := hv.form
  refine G.assignS rfl trivial rfl rfl rfl ?_
  refine G.nil ?_
  refine C.ret ?_
  -- end 
  exact ⟨rfl, _, Res.of (rs := [.tmp 2]) rfl rfl, .slice a7 l c7, seg, hv, rfl, rfl⟩

def clampN (n : Int) : Nat := if n < 1 then 1 else if 2048 < n then 2048 else n.toNat
theorem clampN_eq (n : Int) : (if 2048 < (if 1 > n then 1 else n) then 2048 else if 1 > n then 1 else n) = ((clampN n : Nat) : Int) := by
  unfold clampN
  by_cases h1 : n < 1 <;> by_cases h2 : 2048 < n <;> simp [h1, h2] <;> omega
section dev
variable (W0 : World) (S L0 : List Seg) (bd bl : Nat) (d : Dv)
def atE (i : Int) : Int := if 0 ≤ i ∧ i < d.l.length then 0 else 3
end dev
end Go.Proofs.Ytoegcjgdaikfiaa
