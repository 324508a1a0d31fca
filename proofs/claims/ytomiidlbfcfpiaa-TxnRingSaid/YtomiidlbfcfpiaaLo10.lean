/-
  Locks: what is true of all locks that were ever given; LockAll walked.
-/
import Derived.Test.YtomiidlbfcfpiaaLo9
namespace Go.Proofs.Ytomiidlbfcfpiaa
open Go Go.SL Go.RowKit Go.Sort

/-- a lock as it is kept -/
def Kept (y : One) : Prop := 1 ≤ y.2.1 ∧ y.2.1 ≤ 3 ∧ lockOf y.1 y.2.1 y.2.2 = y
theorem lockOf_kept (t m : Int) (k : ByteArray) (h : 1 ≤ m ∧ m ≤ 3) : Kept (lockOf t m k) := by
  unfold Kept lockOf
  refine ⟨h.1, h.2, ?_⟩
  by_cases e : m = 3
  · simp [e]
  · simp [e]
theorem locked_all {p : One → Prop} {x : One} {ls : List One} (hx : p x) (h : ∀ y ∈ ls, p y) : ∀ y ∈ locked x ls, p y := by
  unfold locked
  split
  · split
    · exact h
    · intro y hy
      rcases List.mem_append.1 hy with hy | hy
      · exact h y hy
      · rw [List.mem_singleton.1 hy]; exact hx
  · exact h
theorem others_all {p : One → Prop} {t : Int} {ls : List One} (h : ∀ y ∈ ls, p y) : ∀ y ∈ others t ls, p y := fun y hy => h y (List.mem_filter.1 hy).1
theorem locked_le (x : One) (ls : List One) : (locked x ls).length ≤ ls.length + 1 := by
  unfold locked
  split
  · split
    · omega
    · simp
  · omega
theorem cellR {W0 : World} {L : List Seg} {p o : Nat} {ls : List LOp} (r : ∀ L, Rd W0 L (some ⟨p, o, none⟩) (ls.flatMap opC)) {i : Nat} (h : i < ls.length) (w : World) (hm : Mem W0 w L) : ∀ j v, (opC ls[i])[j]? = some v → w.cell? ⟨p, o + (i : Int).toNat * 4 + j, none⟩ = some v :=
  Rd.chunk_at r (fun _ _ => rfl) h w hm
theorem mem_full {W0 w : World} {s1 s2 s3 s4 so : Seg} (h : Mem W0 w (so :: s3 :: s4 :: s1 :: s2 :: [])) : Mem W0 w (s1 :: s2 :: s3 :: s4 :: []) :=
  h.tail.of_flat (List.Perm.flatten (show [s3, s4, s1, s2].Perm [s1, s2, s3, s4] from (List.perm_append_comm (l₁ := [s3, s4]) (l₂ := [s1, s2]))))
theorem opC_ok (o : LOp) : ∀ v ∈ opC o, cellsOk v = true := by
  intro v hv
  simp only [opC, List.mem_cons, List.not_mem_nil, or_false] at hv
  rcases hv with rfl | rfl | rfl | rfl <;> rfl
section laws
variable (W0 : World)
end laws
end Go.Proofs.Ytomiidlbfcfpiaa
