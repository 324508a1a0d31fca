/-
  The beginnings of four of the laws below, reckoned: each comes to true.
-/
import Derived.Test.YtokggoikffcijaaGreatDoorGl1
namespace Go.Proofs.YtokggoikffcijaaGreatDoor
open Go Go.SL Go.RowKit Go.Ev
noncomputable section
theorem begun15 : True0 302 := true_of nat9_ok 302 (by kernel_rfl)
theorem begun19 : True0 303 := true_of nat9_ok 303 (by kernel_rfl)
theorem begun21 : True0 304 := true_of nat9_ok 304 (by kernel_rfl)
theorem begun22 : True0 305 := true_of nat9_ok 305 (by kernel_rfl)
def nat10 : Nats := fun x => ite' (Nat.beq x 302) (some begN) (nat9 x)
def nat11 : Nats := fun x => ite' (Nat.beq x 303) (some begN) (nat10 x)
def nat12 : Nats := fun x => ite' (Nat.beq x 304) (some begN) (nat11 x)
def nat13 : Nats := fun x => ite' (Nat.beq x 305) (some begN) (nat12 x)
theorem nat10_ok (W0 : World) : NatsOK Tryz.prog W0 nat10 := @NatsOK.cons Tryz.prog W0 nat9 302 begN (begN_ok begun15 W0) (nat9_ok W0)
theorem nat11_ok (W0 : World) : NatsOK Tryz.prog W0 nat11 := @NatsOK.cons Tryz.prog W0 nat10 303 begN (begN_ok begun19 W0) (nat10_ok W0)
theorem nat12_ok (W0 : World) : NatsOK Tryz.prog W0 nat12 := @NatsOK.cons Tryz.prog W0 nat11 304 begN (begN_ok begun21 W0) (nat11_ok W0)
theorem nat13_ok (W0 : World) : NatsOK Tryz.prog W0 nat13 := @NatsOK.cons Tryz.prog W0 nat12 305 begN (begN_ok begun22 W0) (nat12_ok W0)
end
end Go.Proofs.YtokggoikffcijaaGreatDoor
