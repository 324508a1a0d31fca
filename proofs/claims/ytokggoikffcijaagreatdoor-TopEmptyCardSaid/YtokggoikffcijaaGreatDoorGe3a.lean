/-
  TopEmpty reckoned, where the rest is 3: with a fall and without one it comes to true.
-/
import Derived.Test.YtokggoikffcijaaGreatDoorGl5
namespace Go.Proofs.YtokggoikffcijaaGreatDoor
namespace Em
open Go Go.SL Go.RowKit Go.Ev
noncomputable section
theorem e3f (a0 : Int) : okB (restX a0 3 false) = true := by kernel_rfl
theorem e3t (a0 : Int) : okB (restX a0 3 true) = true := by kernel_rfl
end
end Em
end Go.Proofs.YtokggoikffcijaaGreatDoor
