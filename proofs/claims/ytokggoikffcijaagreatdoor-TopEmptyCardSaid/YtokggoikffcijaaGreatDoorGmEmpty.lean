/-
  TopEmpty called: it comes to true, and leaves what was there as it was.
-/
import Derived.Test.YtokggoikffcijaaGreatDoorGe0a
import Derived.Test.YtokggoikffcijaaGreatDoorGe1a
import Derived.Test.YtokggoikffcijaaGreatDoorGe2a
import Derived.Test.YtokggoikffcijaaGreatDoorGe3a
namespace Go.Proofs.YtokggoikffcijaaGreatDoor
namespace Em
open Go Go.SL Go.RowKit Go.Ev
theorem args_ok (a0 : Int) (b : Bool) : LR (fun _ => none) [.i .i64 a0, .b b] [.int .i64 a0, .bool b] := by
  unfold LR
  refine ⟨_, _, rfl, VR.i' _ _ _, ?_⟩
  unfold LR
  refine ⟨_, _, rfl, VR.b' _ _, ?_⟩
  unfold LR
  rfl
theorem small4 (a0 : Int) : smZ a0 4 = 0 ∨ smZ a0 4 = 1 ∨ smZ a0 4 = 2 ∨ smZ a0 4 = 3 := by
  have h1 := Int.tmod_lt_of_pos a0 (b := 4) (by decide)
  have h2 := Int.lt_tmod_of_pos a0 (b := 4) (by decide)
  unfold smZ smallZ
  show (if a0.tmod 4 < 0 then -(a0.tmod 4) else a0.tmod 4) = 0 ∨ (if a0.tmod 4 < 0 then -(a0.tmod 4) else a0.tmod 4) = 1 ∨ (if a0.tmod 4 < 0 then -(a0.tmod 4) else a0.tmod 4) = 2 ∨ (if a0.tmod 4 < 0 then -(a0.tmod 4) else a0.tmod 4) = 3
  split <;> omega
theorem ok (a0 : Int) (b : Bool) : okB (evalF Tryz.prog envT (natS smZ) (59 + 1) 4 [.i .i64 a0, .b b] hp0) = true := by
  rcases small4 a0 with h | h | h | h
  · rw [whole a0 0 b h]; cases b with
    | false => exact e0f a0
    | true => exact e0t a0
  · rw [whole a0 1 b h]; cases b with
    | false => exact e1f a0
    | true => exact e1t a0
  · rw [whole a0 2 b h]; cases b with
    | false => exact e2f a0
    | true => exact e2t a0
  · rw [whole a0 3 b h]; cases b with
    | false => exact e3f a0
    | true => exact e3t a0
theorem walk (w : World) (a0 : Int) (b : Bool) : Calls Tryz.prog 4 #[.int .i64 a0, .bool b] w fun e w' => e = .returned (.bool true) ∧ Below w.heap.size w w' :=
  @run_true Tryz.prog envT envT_ok mixed (natS smZ) natS_ok (59 + 1) 4 [.i .i64 a0, .b b] [.int .i64 a0, .bool b] (args_ok a0 b) (ok a0 b) w
end Em
end Go.Proofs.YtokggoikffcijaaGreatDoor
