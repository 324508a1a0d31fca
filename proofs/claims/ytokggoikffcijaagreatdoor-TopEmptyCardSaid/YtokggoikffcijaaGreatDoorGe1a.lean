/-
  TopEmpty reckoned, where the rest is 1: with a fall and without one it comes to true.
-/
import Derived.Test.YtokggoikffcijaaGreatDoorGl5
namespace Go.Proofs.YtokggoikffcijaaGreatDoor
namespace Em
open Go Go.SL Go.RowKit Go.Ev
noncomputable section
theorem e1f (a0 : Int) : okB (restX a0 1 false) = true := by kernel_rfl
theorem e1t (a0 : Int) : okB (restX a0 1 true) = true := by kernel_rfl
end
end Em
end Go.Proofs.YtokggoikffcijaaGreatDoor
