/-
  A text's last bytes taken off: walked, and as a native of the evaluator.
-/
import Derived.Test.YtokggoikffcijaaGreatDoorK1
import Derived.Test.YtokggoikffcijaaGreatDoorK2
import Derived.Test.YtokggoikffcijaaGreatDoorTy
import Derived.Test.YtokggoikffcijaaGreatDoorK4
namespace Go.Proofs.YtokggoikffcijaaGreatDoor
open Go Go.SL Go.RowKit Go.Ev
/-- a text without the bytes c at its end -/
def strip (c : Nat) : Nat → Nat → Nat × Nat
  | 0, x => (0, x)
  | n + 1, x => if x % 256 = c then strip c n (x / 256) else (n + 1, x)
theorem strip_lt {c : Nat} : ∀ {n x : Nat}, x < 256 ^ n → (strip c n x).2 < 256 ^ (strip c n x).1
  | 0, x, h => h
  | n + 1, x, h => by
    unfold strip
    split
    · exact strip_lt (by rw [Nat.div_lt_iff_lt_mul (by decide), ← Nat.pow_succ]; exact h)
    · exact h
theorem trim_spec (W0 : World) (L : List Seg) (c : Nat) (hc : c < 256) (n0 x0 : Nat) (hx0 : x0 < 256 ^ n0) (hn0 : n0 < 4294967296) : FnS Tryz.prog W0 342 #[.string (strOf n0 x0), .int .u8 (c : Int)] L
    (fun e L' => L' = L ∧ e = .returned (.string (strOf (strip c n0 x0).1 (strip c n0 x0).2))) := by
  refine FnS.of (args := [.string (strOf n0 x0), .int .u8 (c : Int)]) Tryz.func342 rfl rfl ?_
  refine C.seq ?_
  refine C.region ?_
  refine G.assignT rfl trivial rfl rfl rfl ?_
  refine G.nil ?_
  refine C.seq ?_
  refine C.block ?_
  refine C.loop (fun m F D' L' => ∃ n x : Nat, m = n ∧ n < 4294967296 ∧ x < 256 ^ n ∧ strip c n x = strip c n0 x0 ∧ F 0 = .string (strOf n x) ∧ F 1 = .int .u8 (c : Int) ∧ D' = [] ∧ L = L') ⟨_, ⟨n0, x0, rfl, hn0, hx0, rfl, rfl, rfl, rfl, rfl⟩⟩ ?_
  rintro m F D' L' ⟨n, x, rfl, hn, hx, hst, h0', h1', rfl, rfl⟩
  refine C.fix (d := 0) h0' ?_
  refine C.fix (d := 1) h1' ?_
  refine C.seq ?_
  refine C.seq ?_
  refine C.region ?_
  refine G.moveT rfl trivial rfl rfl rfl ?_
  refine G.lenStr rfl trivial rfl rfl Tryz.underlying9 rfl ?_
  refine G.fix (d := 6) (v := .int .i64 (m : Int)) (by rw [strOf_size]; rfl) ?_
  refine G.bin rfl trivial rfl rfl rfl rfl rfl ?_
  refine G.moveB rfl trivial rfl rfl rfl ?_
  refine G.fork (t := 8) _ rfl ?_ ?_
  · intro hg8
    obtain ⟨k, rfl⟩ : ∃ k, m = k + 1 := ⟨m - 1, by omega⟩
    have hxk : x / 256 < 256 ^ k := by rw [Nat.div_lt_iff_lt_mul (by decide), ← Nat.pow_succ]; exact hx
    refine G.moveT rfl ⟨_, rfl, rfl, rfl⟩ rfl rfl rfl ?_
    refine G.moveT rfl ⟨_, rfl, rfl, rfl⟩ rfl rfl rfl ?_
    refine G.lenStr rfl ⟨_, rfl, rfl, rfl⟩ rfl rfl Tryz.underlying9 rfl ?_
    refine G.fix (d := 11) (v := .int .i64 ((k + 1 : Nat) : Int)) (by rw [strOf_size]; rfl) ?_
    refine G.sub rfl ⟨_, rfl, rfl, rfl⟩ rfl rfl rfl rfl (by omega) ?_
    refine G.fix (d := 12) (v := .int .i64 (k : Int)) (by show Value.int .i64 _ = _; congr 1; omega) ?_
    refine G.indexStr (i := k) (c := UInt8.ofNat (x % 256)) rfl ⟨_, rfl, rfl, rfl⟩ rfl rfl Tryz.underlying9 rfl rfl (by have := strOf_get (n := k + 1) (x := x) (i := k) (by omega); simpa using this) ?_
    refine G.fix (d := 13) (v := .int .u8 ((x % 256 : Nat) : Int)) (by show Value.int .u8 _ = _; congr 1; simp [UInt8.toNat_ofNat]) ?_
    refine G.moveI rfl ⟨_, rfl, rfl, rfl⟩ rfl rfl rfl ?_
    refine G.bin rfl ⟨_, rfl, rfl, rfl⟩ rfl rfl rfl rfl rfl ?_
    first | refine G.pickT rfl trivial rfl rfl rfl rfl ?_ | refine G.pickF rfl trivial rfl rfl rfl rfl ?_
    refine G.nil ?_
    refine C.cond _ rfl ?_ ?_
    · intro hc0
      refine C.skip ?_
      refine C.block ?_
      refine C.region ?_
      refine G.moveT rfl trivial rfl rfl rfl ?_
      refine G.moveT rfl trivial rfl rfl rfl ?_
      refine G.lenStr rfl trivial rfl rfl Tryz.underlying9 rfl ?_
      refine G.fix (d := 19) (v := .int .i64 ((k + 1 : Nat) : Int)) (by rw [strOf_size]; rfl) ?_
      refine G.sub rfl trivial rfl rfl rfl rfl (by omega) ?_
      refine G.fix (d := 20) (v := .int .i64 (k : Int)) (by show Value.int .i64 _ = _; congr 1; omega) ?_
      refine G.sliceStrH rfl trivial rfl rfl Tryz.underlying9 rfl rfl (by rw [strOf_size]; omega) ?_
      refine G.fix (d := 21) (v := .string (strOf k (x / 256))) (by show Value.string _ = _; rw [Int.toNat_natCast, strOf_extract (Nat.zero_le _) (by omega), Nat.sub_zero, show k + 1 - k = 1 by omega, Nat.pow_one, Nat.mod_eq_of_lt hxk]) ?_
      refine G.assignT rfl trivial rfl rfl rfl ?_
      refine G.nil ?_
      exact ⟨k, by omega, k, x / 256, rfl, by omega, hxk, by rw [← hst]; simp only [strip]; rw [if_pos (by omega)], rfl, rfl, rfl, rfl⟩
    · intro hc0
      refine C.exit ?_
      refine C.seq ?_
      refine C.region ?_
      refine G.moveT rfl trivial rfl rfl rfl ?_
      refine G.assignT rfl trivial rfl rfl rfl ?_
      refine G.nil ?_
      refine C.ret ?_
      -- end g8Tc0F
      exact ⟨rfl, _, Res.of (rs := [.tmp 4]) rfl rfl, rfl, by rw [← hst]; simp only [strip]; rw [if_neg (by omega)]; rfl⟩
  · intro hg8
    refine G.skip rfl rfl rfl rfl rfl rfl ?_
    refine G.skip rfl rfl rfl rfl rfl rfl ?_
    refine G.skip rfl rfl rfl rfl rfl rfl ?_
    refine G.skip rfl rfl rfl rfl rfl rfl ?_
    refine G.skip rfl rfl rfl rfl rfl rfl ?_
    refine G.skip rfl rfl rfl rfl rfl rfl ?_
    refine G.skip rfl rfl rfl rfl rfl rfl ?_
    first | refine G.pickT rfl trivial rfl rfl rfl rfl ?_ | refine G.pickF rfl trivial rfl rfl rfl rfl ?_
    refine G.nil ?_
    refine C.condF rfl ?_
    refine C.exit ?_
    refine C.seq ?_
    refine C.region ?_
    refine G.moveT rfl trivial rfl rfl rfl ?_
    refine G.assignT rfl trivial rfl rfl rfl ?_
    refine G.nil ?_
    refine C.ret ?_
    -- end g8F
    obtain rfl : m = 0 := by omega
    exact ⟨rfl, _, Res.of (rs := [.tmp 4]) rfl rfl, rfl, by rw [← hst]; rfl⟩
noncomputable section
def stripK (c n x : Nat) : V := Nat.rec (motive := fun _ => Nat → V) (fun x => .s 0 x) (fun n ih x => ite' (Nat.beq (Nat.mod x 256) c) (ih (Nat.div x 256)) (.s (Nat.succ n) x)) n x
theorem stripK_eq (c : Nat) : ∀ n x, stripK c n x = .s (strip c n x).1 (strip c n x).2
  | 0, x => rfl
  | n + 1, x => by
    have ih := stripK_eq c n (x / 256)
    show ite' (Nat.beq (x % 256) c) (stripK c n (x / 256)) (.s (n + 1) x) = _
    unfold strip
    cases hb : Nat.beq (x % 256) c with
    | true => rw [if_pos (Nat.eq_of_beq_eq_true hb)]; exact ih
    | false => rw [if_neg (fun e => by rw [e, Nat.beq_refl] at hb; cases hb)]; rfl
def trimN (_hd : Hd) (args : List V) (h : Hp) : Ox := match args with
  | [.s n x, .i .u8 (.ofNat c)] => ite' (Bool.and (Nat.blt c 256) (Nat.blt n 4294967296)) (.val (stripK c n x) h) (.no 780)
  | _ => .no 781
theorem trimN_ok {W0 : World} (hd : Hd) (args : List V) (h : Hp) (φ : Phi) (w : World) (argsR : List Value) (hs : Sm W0 φ h w) (hl : LR φ args argsR) : CallOK Tryz.prog W0 φ h w 342 argsR.toArray (trimN hd args h) := by
  unfold trimN
  split
  · rename_i n x c
    obtain ⟨xv, y, rfl, hx, hy⟩ := hl.two
    obtain rfl := hy.i
    obtain ⟨rfl, hx2⟩ := hx.s
    cases h1 : Bool.and (Nat.blt c 256) (Nat.blt n 4294967296) with
    | false => trivial
    | true =>
      simp only [Bool.and_eq_true] at h1
      have key := trim_spec W0 [others W0 w []] c (Nat.le_of_ble_eq_true h1.1) n x hx2 (Nat.le_of_ble_eq_true h1.2)
      show CallOK Tryz.prog W0 φ h w _ _ (.val (stripK c n x) h)
      rw [stripK_eq]
      refine (key w hs.listed).mono ?_
      rintro e w' ⟨L', hm', rfl, rfl⟩
      exact ⟨φ, _, rfl, St.refl _ _, hs.of_listed hm' (fun p hp => by simp [hp]), VR.s' (strip_lt hx2)⟩
  · trivial
end
end Go.Proofs.YtokggoikffcijaaGreatDoor
