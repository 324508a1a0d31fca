/-
  The law's tied card holds: the row, the tables tied to the text, no goroutine started.
-/
import Derived.Test.YtokggoikffcijaaGreatDoorWEmpty
namespace Go.Proofs.YtokggoikffcijaaGreatDoor.topEmpty
open Go
set_option maxRecDepth 100000
theorem nogo : Tryz.pinned.checked.prog.funcs.toList.any Func.goes = false := by kernel_rfl
theorem goes2 : false = Rows.topEmptyRow.goesBy Tryz.pinned.checked.prog := by
  have hf : ∀ g ∈ Tryz.pinned.checked.prog.funcs.toList, Func.goes g = false := by
    intro g hg
    have := nogo
    rw [List.any_eq_false] at this
    simpa using this g hg
  have h1 : ∀ f, Program.goes Tryz.pinned.checked.prog f = false := by
    intro f
    unfold Program.goes
    have a : ((Tryz.pinned.checked.prog.closure f).any fun g => (Tryz.pinned.checked.prog.funcs[g]?).any Func.goes) = false := by
      rw [List.any_eq_false]
      intro g _ hh
      cases h : Tryz.pinned.checked.prog.funcs[g]? with
      | none => rw [h] at hh; cases hh
      | some fn =>
        rw [h] at hh
        have hm : fn ∈ Tryz.pinned.checked.prog.funcs.toList := Array.mem_toList_iff.2 (Array.mem_of_getElem? h)
        have := hf fn hm
        simp [this] at hh
    have b : Tryz.pinned.checked.prog.funcs.any Func.goes = false := by
      rw [← Array.any_toList]; exact nogo
    rw [a, b]; simp
  have hst : Rows.topEmptyRow.start = .entering := rfl
  unfold OpenClaim.goesBy Program.goesAt
  rw [hst]
  unfold Program.goesFrom
  cases hx : Tryz.pinned.checked.prog.funcNamed Rows.topEmptyRow.func with
  | none => rfl
  | some f => simp [h1 f]
theorem mine : ∀ f fn, Tryz.pinned.checked.prog.funcNamed Rows.topEmptyRow.func = some f → Tryz.pinned.checked.prog.funcs[f]? = some fn → true = Tryz.pinned.checked.prog.looks [] ∧ ∀ (j : Nat) t, fn.params[j]? = some t → Tryz.pinned.checked.prog.wantsStandIn t = false := by
  intro f fn hf hfn
  obtain rfl : f = 4 := Option.some.inj ((show Tryz.prog.funcNamed "engross/engrosstop.TopEmpty" = some 4 by kernel_rfl).symm.trans hf) |>.symm
  obtain rfl : fn = Tryz.f4 := (Option.some.inj (Tryz.func4.symm.trans hfn)).symm
  exact ⟨by kernel_rfl, fun j t ht => by
    rw [Tryz.params4] at ht
    have hm : t ∈ [3, 4] := by simpa using Array.mem_of_getElem? ht
    have hall : ([3, 4].all fun u => !Tryz.prog.wantsStandIn u) = true := by kernel_rfl
    exact (show Tryz.prog.wantsStandIn t = false by simpa using List.all_eq_true.1 hall t hm)⟩
theorem proved : Rows.TopEmptyCardSaid :=
  Claim7.holds_tied_plain_at .later [] [.data, .pinned] true (true, "ff371fc9b77178247db63d1e1200f4fe03002c6e19c80faa81e0f5ce0bb91c16") true over (fun _ h => by cases h) (by kernel_rfl) (fun _ h => by cases h) topEmpty_row_tie rfl ⟨rfl, rfl⟩ (by kernel_rfl) rfl mine goes2
#print axioms proved
end Go.Proofs.YtokggoikffcijaaGreatDoor.topEmpty
