/-
  The natives all together; the laws' own beginnings that come to true.
-/
import Derived.Test.YtokggoikffcijaaGreatDoorGl0
import Derived.Test.YtokggoikffcijaaGreatDoorGt1
import Derived.Test.YtokggoikffcijaaGreatDoorGe0
import Derived.Test.YtokggoikffcijaaGreatDoorGn2
import Derived.Test.YtokggoikffcijaaGreatDoorGw1
import Derived.Test.YtokggoikffcijaaGreatDoorGw2
import Derived.Test.YtokggoikffcijaaGreatDoorGw3
import Derived.Test.YtokggoikffcijaaGreatDoorGk1
import Derived.Test.YtokggoikffcijaaGreatDoorGi1
namespace Go.Proofs.YtokggoikffcijaaGreatDoor
open Go Go.SL Go.RowKit Go.Ev
noncomputable section
def nat1 : Nats := fun x => ite' (Nat.beq x 341) (some moreN) none
def nat2 : Nats := fun x => ite' (Nat.beq x 342) (some trimN) (nat1 x)
def nat3 : Nats := fun x => ite' (Nat.beq x 264) (some clearN) (nat2 x)
def nat4 : Nats := fun x => ite' (Nat.beq x 183) (some loadN) (nat3 x)
def nat5 : Nats := fun x => ite' (Nat.beq x 24) (some crashN) (nat4 x)
def nat6 : Nats := fun x => ite' (Nat.beq x 138) (some flushN) (nat5 x)
def nat7 : Nats := fun x => ite' (Nat.beq x 187) (some sortedN) (nat6 x)
def nat8 : Nats := fun x => ite' (Nat.beq x 191) (some tryN) (nat7 x)
def nat9 : Nats := fun x => ite' (Nat.beq x 353) (some (insN envT)) (nat8 x)
section
variable (W0 : World)
theorem nat1_ok : NatsOK Tryz.prog W0 nat1 := @NatsOK.cons Tryz.prog W0 (fun _ => none) 341 moreN (fun hd _ => moreN_ok hd) (NatsOK.none Tryz.prog W0)
theorem nat2_ok : NatsOK Tryz.prog W0 nat2 := @NatsOK.cons Tryz.prog W0 nat1 342 trimN (fun hd _ => trimN_ok hd) (nat1_ok W0)
theorem nat3_ok : NatsOK Tryz.prog W0 nat3 := @NatsOK.cons Tryz.prog W0 nat2 264 clearN (fun hd _ => clearN_ok hd) (nat2_ok W0)
theorem nat4_ok : NatsOK Tryz.prog W0 nat4 := @NatsOK.cons Tryz.prog W0 nat3 183 loadN (fun hd _ => loadN_ok hd) (nat3_ok W0)
theorem nat5_ok : NatsOK Tryz.prog W0 nat5 := @NatsOK.cons Tryz.prog W0 nat4 24 crashN (fun hd _ => crashN_ok hd) (nat4_ok W0)
theorem nat6_ok : NatsOK Tryz.prog W0 nat6 := @NatsOK.cons Tryz.prog W0 nat5 138 flushN (fun hd _ => flushN_ok hd) (nat5_ok W0)
theorem nat7_ok : NatsOK Tryz.prog W0 nat7 := @NatsOK.cons Tryz.prog W0 nat6 187 sortedN (fun hd _ => sortedN_ok hd) (nat6_ok W0)
theorem nat8_ok : NatsOK Tryz.prog W0 nat8 := @NatsOK.cons Tryz.prog W0 nat7 191 tryN (fun hd hhd => tryN_ok hd hhd) (nat7_ok W0)
theorem nat9_ok : NatsOK Tryz.prog W0 nat9 := @NatsOK.cons Tryz.prog W0 nat8 353 (insN envT) (fun hd hhd => insN_ok envT_ok mixed hd hhd) (nat8_ok W0)
end
abbrev True0 (f : Nat) : Prop := ∀ w, Calls Tryz.prog f #[] w fun e w' => e = .returned (.bool true) ∧ Below w.heap.size w w'
theorem nil0 : LR (fun _ => none) [] [] := by unfold LR; rfl
theorem true_of {nat : Nats} (hn : ∀ W0, NatsOK Tryz.prog W0 nat) (f : Nat) (hx : okB (evalF Tryz.prog envT nat 60 f [] hp0) = true) : True0 f := fun w => @run_true Tryz.prog envT envT_ok mixed nat hn 60 f [] [] nil0 hx w
end
end Go.Proofs.YtokggoikffcijaaGreatDoor
