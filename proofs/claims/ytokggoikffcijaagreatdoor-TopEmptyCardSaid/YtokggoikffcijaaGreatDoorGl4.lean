/-
  The beginning of the law of the script, reckoned: it comes to true. What the laws of the whole are run with.
-/
import Derived.Test.YtokggoikffcijaaGreatDoorGl3
namespace Go.Proofs.YtokggoikffcijaaGreatDoor
open Go Go.SL Go.RowKit Go.Ev
noncomputable section
theorem begun27 : True0 33 := true_of nat14_ok 33 (by kernel_rfl)
def nat15 : Nats := fun x => ite' (Nat.beq x 33) (some begN) (nat14 x)
theorem nat15_ok (W0 : World) : NatsOK Tryz.prog W0 nat15 := @NatsOK.cons Tryz.prog W0 nat14 33 begN (begN_ok begun27 W0) (nat14_ok W0)
/-- a number brought below another one, by a way of reckoning that is given -/
def natS (sm : Int → Nat → Int) : Nats := fun x => ite' (Nat.beq x 7) (some (smallN sm)) (nat15 x)
def smZ (x : Int) (k : Nat) : Int := smallZ x k
theorem natS_ok (W0 : World) : NatsOK Tryz.prog W0 (natS smZ) := @NatsOK.cons Tryz.prog W0 nat15 7 (smallN smZ) (fun hd _ => smallN_ok hd) (nat15_ok W0)
end
end Go.Proofs.YtokggoikffcijaaGreatDoor
