/-
  The beginning of the law of the engine, reckoned: it comes to true.
-/
import Derived.Test.YtokggoikffcijaaGreatDoorGl2
namespace Go.Proofs.YtokggoikffcijaaGreatDoor
open Go Go.SL Go.RowKit Go.Ev
noncomputable section
theorem begun26 : True0 135 := true_of nat13_ok 135 (by kernel_rfl)
def nat14 : Nats := fun x => ite' (Nat.beq x 135) (some begN) (nat13 x)
theorem nat14_ok (W0 : World) : NatsOK Tryz.prog W0 nat14 := @NatsOK.cons Tryz.prog W0 nat13 135 begN (begN_ok begun26 W0) (nat13_ok W0)
end
end Go.Proofs.YtokggoikffcijaaGreatDoor
