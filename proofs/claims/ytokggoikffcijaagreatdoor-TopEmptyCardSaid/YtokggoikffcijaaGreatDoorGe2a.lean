/-
  TopEmpty reckoned, where the rest is 2: with a fall and without one it comes to true.
-/
import Derived.Test.YtokggoikffcijaaGreatDoorGl5
namespace Go.Proofs.YtokggoikffcijaaGreatDoor
namespace Em
open Go Go.SL Go.RowKit Go.Ev
noncomputable section
theorem e2f (a0 : Int) : okB (restX a0 2 false) = true := by kernel_rfl
theorem e2t (a0 : Int) : okB (restX a0 2 true) = true := by kernel_rfl
end
end Em
end Go.Proofs.YtokggoikffcijaaGreatDoor
