/-
  TopEmpty: where its run is cut, so that the number it is given enters by its rest alone.
-/
import Derived.Test.YtokggoikffcijaaGreatDoorGl4
import Derived.Test.YtokggoikffcijaaGreatDoorK4
namespace Go.Proofs.YtokggoikffcijaaGreatDoor
namespace Em
open Go Go.SL Go.RowKit Go.Ev
noncomputable section
noncomputable def body : Code := (Tryz.f4.body).getD .skip
theorem body_eq : Tryz.f4.body = some body := by kernel_rfl
def x3 (a0 : Int) (b : Bool) : Cx := (codeC Tryz.prog envT (drawnC Tryz.prog envT) (Nat.blt 64 Tryz.f4.ntmps) Tryz.f4.ntmps (takeS 3 body)).run (evalF Tryz.prog envT (natS smZ) 59) (fillA (Nat.blt 64 Tryz.f4.ntmps) [.i .i64 a0, .b b] 0) hp0
theorem x3_eq (a0 : Int) (b : Bool) : (codeC Tryz.prog envT (drawnC Tryz.prog envT) (Nat.blt 64 Tryz.f4.ntmps) Tryz.f4.ntmps (takeS 3 body)).run (evalF Tryz.prog envT (natS smZ) 59) (fillA (Nat.blt 64 Tryz.f4.ntmps) [.i .i64 a0, .b b] 0) hp0 = x3 a0 b := by kernel_rfl
theorem x3_go (a0 : Int) (b : Bool) : isGo (x3 a0 b) = true := by kernel_rfl
/-- the call of small came to r -/
def y4 (a0 r : Int) (b : Bool) : Cx := (codeC Tryz.prog envT (drawnC Tryz.prog envT) (Nat.blt 64 Tryz.f4.ntmps) Tryz.f4.ntmps (takeS 1 (dropS 3 body))).run (fun _ _ _ => .val (.i .i64 r) (goH (x3 a0 b))) (goF (x3 a0 b)) (goH (x3 a0 b))
theorem small_cut (hd : Hd) (a0 : Int) (b : Bool) : (codeC Tryz.prog envT (drawnC Tryz.prog envT) (Nat.blt 64 Tryz.f4.ntmps) Tryz.f4.ntmps (takeS 1 (dropS 3 body))).run hd (goF (x3 a0 b)) (goH (x3 a0 b)) = (codeC Tryz.prog envT (drawnC Tryz.prog envT) (Nat.blt 64 Tryz.f4.ntmps) Tryz.f4.ntmps (takeS 1 (dropS 3 body))).run (fun _ _ _ => hd 7 [.i .i64 a0, .i .i64 (.ofNat 4)] (goH (x3 a0 b))) (goF (x3 a0 b)) (goH (x3 a0 b)) := by kernel_rfl
theorem small_eq (a0 : Int) (h : Hp) : evalF Tryz.prog envT (natS smZ) 59 7 [.i .i64 a0, .i .i64 (.ofNat 4)] h = .val (.i .i64 (smZ a0 4)) h := by kernel_rfl
theorem y4_eq (a0 : Int) (b : Bool) (r : Int) (hr : smZ a0 4 = r) : (codeC Tryz.prog envT (drawnC Tryz.prog envT) (Nat.blt 64 Tryz.f4.ntmps) Tryz.f4.ntmps (takeS 1 (dropS 3 body))).run (evalF Tryz.prog envT (natS smZ) 59) (goF (x3 a0 b)) (goH (x3 a0 b)) = y4 a0 r b := by
  have h1 := small_cut (evalF Tryz.prog envT (natS smZ) 59) a0 b
  rw [small_eq, hr] at h1
  exact h1
/-- the rest, where the number came to r -/
def restX (a0 r : Int) (b : Bool) : Ox := finC Tryz.prog (Nat.blt 64 Tryz.f4.ntmps) Tryz.f4 4 (bindC (y4 a0 r b) fun F h => (codeC Tryz.prog envT (drawnC Tryz.prog envT) (Nat.blt 64 Tryz.f4.ntmps) Tryz.f4.ntmps (dropS 1 (dropS 3 body))).run (evalF Tryz.prog envT (natS smZ) 59) F h)
theorem restX_eq (a0 r : Int) (b : Bool) : finC Tryz.prog (Nat.blt 64 Tryz.f4.ntmps) Tryz.f4 4 (bindC (y4 a0 r b) fun F h => (codeC Tryz.prog envT (drawnC Tryz.prog envT) (Nat.blt 64 Tryz.f4.ntmps) Tryz.f4.ntmps (dropS 1 (dropS 3 body))).run (evalF Tryz.prog envT (natS smZ) 59) F h) = restX a0 r b := by kernel_rfl
theorem hnat : natS smZ 4 = none := by kernel_rfl
theorem hlim : Nat.ble Tryz.f4.ntmps (lim (Nat.blt 64 Tryz.f4.ntmps)) = true := by kernel_rfl
theorem hargs (a0 : Int) (b : Bool) : Nat.ble ([.i .i64 a0, .b b] : List V).length Tryz.f4.ntmps = true := by kernel_rfl
theorem whole (a0 r : Int) (b : Bool) (hr : smZ a0 4 = r) : evalF Tryz.prog envT (natS smZ) (59 + 1) 4 [.i .i64 a0, .b b] hp0 = restX a0 r b :=
  @evalF_cut Tryz.prog envT (natS smZ) 4 Tryz.f4 body hnat Tryz.func4 body_eq hlim [.i .i64 a0, .b b] (hargs a0 b) 59 3 hp0 (x3 a0 b) (x3_eq a0 b) (x3_go a0 b) (y4 a0 r b) (y4_eq a0 b r hr) (restX a0 r b) (restX_eq a0 r b)
end
end Em
end Go.Proofs.YtokggoikffcijaaGreatDoor
