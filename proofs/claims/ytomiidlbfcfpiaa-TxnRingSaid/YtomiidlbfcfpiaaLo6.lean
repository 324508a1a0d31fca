/-
  Locks: the document's answer (engrossref23), walked.
-/
import Derived.Test.YtomiidlbfcfpiaaLo3
namespace Go.Proofs.Ytomiidlbfcfpiaa
open Go Go.SL Go.RowKit Go.Sort

theorem one_at {ls : List One} {i : Nat} (h : i < ls.length) : (ls.flatMap oneC)[0 + (i : Int).toNat * 3 + 0]? = some (.int .i64 ls[i].1) ∧ (ls.flatMap oneC)[0 + (i : Int).toNat * 3 + 1]? = some (.int .i64 ls[i].2.1) ∧ (ls.flatMap oneC)[0 + (i : Int).toNat * 3 + 2]? = some (.string ls[i].2.2) := by
  have hr := row_chunk (rs := []) (f := oneC) (k := 3) (fun _ _ => rfl) h
  rw [List.append_nil] at hr
  exact ⟨hr 0 _ rfl, hr 1 _ rfl, hr 2 _ rfl⟩
section ref
variable (W0 : World)
end ref
end Go.Proofs.Ytomiidlbfcfpiaa
