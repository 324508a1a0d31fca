/-
  A number brought below another one: walked, and as a native of the evaluator.
-/
import Derived.Test.YtokggoikffcijaaGreatDoorK1
import Derived.Test.YtokggoikffcijaaGreatDoorTy
import Derived.Test.YtokggoikffcijaaGreatDoorK4
namespace Go.Proofs.YtokggoikffcijaaGreatDoor
open Go Go.SL Go.RowKit Go.Ev
def smallZ (x k : Int) : Int := if x.tmod k < 0 then -(x.tmod k) else x.tmod k
theorem small_spec (W0 : World) (L : List Seg) (x k : Int) (hk : 0 < k ∧ k ≤ 1000) : FnS Tryz.prog W0 7 #[.int .i64 x, .int .i64 k] L (fun e L' => L' = L ∧ e = .returned (.int .i64 (smallZ x k))) := by
  have hlt : -1000 < x.tmod k ∧ x.tmod k < 1000 := by
    have h1 := Int.tmod_lt_of_pos x hk.1
    have h2 := Int.lt_tmod_of_pos x hk.1
    omega
  refine FnS.of (args := [.int .i64 x, .int .i64 k]) Tryz.func7 rfl rfl ?_
  refine C.seq ?_
  refine C.region ?_
  refine G.assignI rfl trivial rfl rfl rfl ?_
  refine G.nil ?_
  refine C.seq ?_
  refine C.region ?_
  refine G.moveI rfl trivial rfl rfl rfl ?_
  refine G.moveI rfl trivial rfl rfl rfl ?_
  refine G.rem rfl trivial rfl rfl rfl rfl (by omega) ?_
  refine G.assignI rfl trivial rfl rfl rfl ?_
  refine G.nil ?_
  refine C.seq ?_
  refine C.seq ?_
  refine C.region ?_
  refine G.moveI rfl trivial rfl rfl rfl ?_
  refine G.bin rfl trivial rfl rfl rfl rfl rfl ?_
  refine G.nil ?_
  refine C.cond _ rfl ?_ ?_
  · intro hc0
    refine C.region ?_
    refine G.moveI rfl trivial rfl rfl rfl ?_
    refine G.neg rfl trivial rfl rfl rfl ?_
    refine G.fix (d := 11) (v := .int .i64 (-(x.tmod k))) (by show Value.int .i64 (IntKind.i64.wrap _) = _; rw [wrap_i64 (by omega)]; congr 1; omega) ?_
    refine G.assignI rfl trivial rfl rfl rfl ?_
    refine G.nil ?_
    refine C.seq ?_
    refine C.region ?_
    refine G.moveI rfl trivial rfl rfl rfl ?_
    refine G.assignI rfl trivial rfl rfl rfl ?_
    refine G.nil ?_
    refine C.ret ?_
    -- end c0T
    exact ⟨rfl, _, Res.of (rs := [.tmp 4]) rfl rfl, rfl, by unfold smallZ; rw [if_pos hc0]; rfl⟩
  · intro hc0
    refine C.skip ?_
    refine C.seq ?_
    refine C.region ?_
    refine G.moveI rfl trivial rfl rfl rfl ?_
    refine G.assignI rfl trivial rfl rfl rfl ?_
    refine G.nil ?_
    refine C.ret ?_
    -- end c0F
    exact ⟨rfl, _, Res.of (rs := [.tmp 4]) rfl rfl, rfl, by unfold smallZ; rw [if_neg hc0]; rfl⟩
noncomputable section
/-- by another way of reckoning, which is the same -/
def smallN (sm : Int → Nat → Int) (_hd : Hd) (args : List V) (h : Hp) : Ox := match args with
  | [.i .i64 x, .i .i64 (.ofNat k)] => ite' (Bool.and (Nat.ble 1 k) (Nat.ble k 1000)) (.val (.i .i64 (sm x k)) h) (.no 830)
  | _ => .no 831
theorem smallN_ok {W0 : World} (hd : Hd) (args : List V) (h : Hp) (φ : Phi) (w : World) (argsR : List Value) (hs : Sm W0 φ h w) (hl : LR φ args argsR) : CallOK Tryz.prog W0 φ h w 7 argsR.toArray (smallN (fun x k => smallZ x k) hd args h) := by
  unfold smallN
  split
  · rename_i x k
    obtain ⟨xv, y, rfl, hx, hy⟩ := hl.two
    obtain rfl := hx.i
    obtain rfl := hy.i
    cases h1 : Bool.and (Nat.ble 1 k) (Nat.ble k 1000) with
    | false => trivial
    | true =>
      simp only [Bool.and_eq_true] at h1
      have k1 := Nat.le_of_ble_eq_true h1.1
      have k2 := Nat.le_of_ble_eq_true h1.2
      have key := small_spec W0 [others W0 w []] x (k : Int) (by omega)
      refine (key w hs.listed).mono ?_
      rintro e w' ⟨L', hm', rfl, rfl⟩
      exact ⟨φ, _, rfl, St.refl _ _, hs.of_listed hm' (fun p hp => by simp [hp]), VR.i' _ _ _⟩
  · trivial
end
end Go.Proofs.YtokggoikffcijaaGreatDoor
