/-
  What crc.More, crc.Sum and the reference's Sum compute, over 32 bits (the walks), beside the plain functions that they come to.
-/
import Derived.Test.YtokggoikffcijaaGreatDoorTy
import Derived.Test.YtokggoikffcijaaGreatDoorK1
namespace Go.Proofs.YtokggoikffcijaaGreatDoor
open Go Go.SL Go.RowKit

/-! ### The plain functions -/
def bitS (x : BitVec 32) : BitVec 32 := (x >>> 1) ^^^ (3988292384#32 &&& (0#32 - (x &&& 1#32)))
def bitsS : Nat → BitVec 32 → BitVec 32
  | 0, x => x
  | k + 1, x => bitsS k (bitS x)
def byteS (x : BitVec 32) (c : UInt8) : BitVec 32 := bitsS 8 (x ^^^ BitVec.ofNat 32 c.toNat)
def moreS (s : BitVec 32) (l : List UInt8) : BitVec 32 := ~~~ (l.foldl byteS (~~~ s))

theorem w32 (x : BitVec 32) : IntKind.u32.wrap (x.toNat : Int) = x.toNat := by
  have := x.isLt
  exact wrap_in .u32 (by simp [IntKind.min, IntKind.max, IntKind.bits, IntKind.signed]; omega)
theorem of32 (x : BitVec 32) : BitVec.ofInt 32 (x.toNat : Int) = x := by simp
theorem byte32 (c : UInt8) : IntKind.u32.wrap (c.toNat : Int) = ((BitVec.ofNat 32 c.toNat).toNat : Int) := by
  have := c.toNat_lt
  rw [wrap_in .u32 (by simp [IntKind.min, IntKind.max, IntKind.bits, IntKind.signed]; omega)]
  simp [BitVec.toNat_ofNat]
theorem bitsS_succ (k : Nat) (x : BitVec 32) : bitsS (k + 1) x = bitS (bitsS k x) := by
  induction k generalizing x with
  | zero => rfl
  | succ k ih => exact ih (bitS x)
theorem shr32 (x : BitVec 32) : ((x.toNat : Int).fdiv (2 ^ (min (1 : Int).toNat IntKind.u32.bits))) = ((x >>> 1).toNat : Int) := by
  rw [Int.fdiv_eq_ediv_of_nonneg _ (by decide)]
  simp [IntKind.bits, BitVec.toNat_ushiftRight, Nat.shiftRight_eq_div_pow]
theorem neg32 (x : BitVec 32) : IntKind.u32.wrap (0 - (x.toNat : Int)) = ((0#32 - x).toNat : Int) := by
  have := x.isLt
  simp only [IntKind.wrap, IntKind.bits, BitVec.toNat_sub, BitVec.toNat_ofNat]
  simp [IntKind.signed]
  omega
theorem xor32 (x y : BitVec 32) : Value.int .u32 (IntKind.u32.wrap ((BitVec.ofInt IntKind.u32.bits (x.toNat : Int) ^^^ BitVec.ofInt IntKind.u32.bits (y.toNat : Int)).toNat : Int)) = .int .u32 ((x ^^^ y).toNat : Int) := by
  rw [show IntKind.u32.bits = 32 from rfl, of32, of32, w32]
theorem and32 (x y : BitVec 32) : Value.int .u32 (IntKind.u32.wrap ((BitVec.ofInt IntKind.u32.bits (x.toNat : Int) &&& BitVec.ofInt IntKind.u32.bits (y.toNat : Int)).toNat : Int)) = .int .u32 ((x &&& y).toNat : Int) := by
  rw [show IntKind.u32.bits = 32 from rfl, of32, of32, w32]
theorem compl32 (x : BitVec 32) : Value.int .u32 (IntKind.u32.wrap ((BitVec.ofInt IntKind.u32.bits (if IntKind.u32.signed then -1 else IntKind.u32.max) ^^^ BitVec.ofInt IntKind.u32.bits (x.toNat : Int)).toNat : Int)) = .int .u32 ((~~~ x).toNat : Int) := by
  rw [show (if IntKind.u32.signed then (-1 : Int) else IntKind.u32.max) = ((BitVec.allOnes 32).toNat : Int) from rfl, show IntKind.u32.bits = 32 from rfl, of32, of32, w32, BitVec.allOnes_xor]
theorem take_snoc {xs : List UInt8} {i : Nat} (h : i < xs.length) : xs.take (i + 1) = xs.take i ++ [xs[i]] := by
  rw [List.take_succ_eq_append_getElem h]
theorem odd32 (y : BitVec 32) : ((y.toNat : Int).tmod 2 = 1) ↔ y &&& 1#32 = 1#32 := by
  rw [Int.tmod_eq_emod_of_nonneg (by omega)]
  constructor
  · intro h
    apply BitVec.eq_of_toNat_eq
    simp [BitVec.toNat_and, Nat.and_one_is_mod]
    omega
  · intro h
    have := congrArg BitVec.toNat h
    simp [BitVec.toNat_and, Nat.and_one_is_mod] at this
    omega
theorem bit_odd {y : BitVec 32} (h : y &&& 1#32 = 1#32) : bitS y = (y >>> 1) ^^^ 3988292384#32 := by
  unfold bitS
  rw [h]
  congr 1
theorem bit_even {y : BitVec 32} (h : ¬ y &&& 1#32 = 1#32) : bitS y = y >>> 1 := by
  have h0 : y &&& 1#32 = 0#32 := by
    apply BitVec.eq_of_toNat_eq
    have : ¬ (y &&& 1#32).toNat = 1 := fun e => h (BitVec.eq_of_toNat_eq (by simpa using e))
    simp [BitVec.toNat_and, Nat.and_one_is_mod] at this ⊢
    omega
  unfold bitS
  rw [h0]
  simp

theorem more_spec (W0 : World) (L : List Seg) (s : BitVec 32) (a : Option Addr) (c : Nat) (xs : List UInt8) {l : Nat} (hl : l = xs.length) (hn : xs.length ≤ 281474976710656) (hrd : Rd W0 L a (bytesV xs)) :
   FnS Tryz.prog W0 341 #[.int .u32 s.toNat, .slice a l c] L (fun e L' => L' = L ∧ e = .returned (.int .u32 (moreS s xs).toNat)) := by
  subst hl
  refine FnS.of (args := [.int .u32 s.toNat, .slice a xs.length c]) Tryz.func341 rfl rfl ?_
  refine C.seq ?_
  refine C.region ?_
  refine G.assignI rfl trivial rfl rfl rfl ?_
  refine G.nil ?_
  refine C.seq ?_
  refine C.region ?_
  refine G.moveI rfl trivial rfl rfl rfl ?_
  refine G.compl rfl trivial rfl rfl rfl ?_
  refine G.fix (d := 9) (v := .int .u32 ((~~~ s).toNat)) (compl32 s) ?_
  refine G.assignI rfl trivial rfl rfl rfl ?_
  refine G.nil ?_
  refine C.seq ?_
  refine C.seq ?_
  refine C.region ?_
  refine G.moveS rfl trivial rfl rfl rfl ?_
  refine G.lenSlice rfl trivial rfl rfl Tryz.underlying80 rfl ?_
  refine G.moveI rfl trivial rfl rfl rfl ?_
  refine G.nil ?_
  refine C.block ?_
  refine C.loop (fun m F D' L' => ∃ i : Nat, i ≤ xs.length ∧ m = xs.length - i ∧ F 12 = .int .i64 i ∧ F 11 = .int .i64 xs.length ∧ F 10 = .slice a xs.length c ∧ F 5 = .int .u32 (((xs.take i).foldl byteS (~~~ s)).toNat) ∧ D' = [] ∧ L = L') ⟨_, ⟨0, by omega, rfl, rfl, rfl, rfl, rfl, rfl, rfl⟩⟩ ?_
  rintro m F D' L' ⟨i, hi, rfl, h12, h11, h10, h5, rfl, rfl⟩
  refine C.fix (d := 12) h12 ?_
  refine C.fix (d := 11) h11 ?_
  refine C.fix (d := 10) h10 ?_
  refine C.fix (d := 5) h5 ?_
  refine C.seq ?_
  refine C.region ?_
  refine G.bin rfl trivial rfl rfl rfl rfl rfl ?_
  refine G.nil ?_
  refine C.seq ?_
  refine C.cond _ rfl ?_ ?_
  · intro hc0
    have hlt : i < xs.length := by omega
    obtain ⟨b, off, rfl, hc⟩ := hrd.some_ (by simp; omega)
    generalize hx : (xs.take i).foldl byteS (~~~ s) = x
    refine C.skip ?_
    refine C.seq ?_
    refine C.block ?_
    refine C.seq ?_
    refine C.region ?_
    refine G.indexAddr rfl trivial rfl rfl Tryz.underlying80 I5 rfl rfl (by omega) ?_
    refine G.load (v := .int .u8 (xs[i].toNat : Int)) rfl trivial rfl rfl Tryz.underlying5 rfl rfl (fun w hm => by rw [← bytesV_at hlt, ← hc w hm i (by simpa using hlt)]; simp) ?_
    refine G.assignI rfl trivial rfl rfl rfl ?_
    refine G.nil ?_
    refine C.seq ?_
    refine C.region ?_
    refine G.moveI rfl trivial rfl rfl rfl ?_
    refine G.moveI rfl trivial rfl rfl rfl ?_
    refine G.convInt rfl trivial rfl rfl Tryz.underlying5 Tryz.underlying306 rfl ?_
    refine G.fix (d := 18) (v := .int .u32 ((BitVec.ofNat 32 xs[i].toNat).toNat)) (congrArg (Value.int .u32) (byte32 _)) ?_
    refine G.bin rfl trivial rfl rfl rfl rfl rfl ?_
    refine G.fix (d := 19) (v := .int .u32 ((x ^^^ BitVec.ofNat 32 xs[i].toNat).toNat)) (xor32 x (BitVec.ofNat 32 xs[i].toNat)) ?_
    refine G.assignI rfl trivial rfl rfl rfl ?_
    refine G.nil ?_
    refine C.seq ?_
    refine C.region ?_
    refine G.moveI rfl trivial rfl rfl rfl ?_
    refine G.nil ?_
    refine C.block ?_
    refine C.loop (fun m F D' L' => ∃ j : Nat, j ≤ 8 ∧ m = 8 - j ∧ F 20 = .int .i64 j ∧ F 12 = .int .i64 i ∧ F 11 = .int .i64 xs.length ∧ F 10 = .slice (some ⟨b, off, none⟩) xs.length c ∧ F 5 = .int .u32 ((bitsS j (x ^^^ BitVec.ofNat 32 xs[i].toNat)).toNat) ∧ D' = [] ∧ L = L') ⟨_, ⟨0, by omega, rfl, rfl, rfl, rfl, rfl, rfl, rfl, rfl⟩⟩ ?_
    rintro m F D' L' ⟨j, hj, rfl, h20, h12, h11, h10, h5, rfl, rfl⟩
    refine C.fix (d := 20) h20 ?_
    refine C.fix (d := 12) h12 ?_
    refine C.fix (d := 11) h11 ?_
    refine C.fix (d := 10) h10 ?_
    refine C.fix (d := 5) h5 ?_
    refine C.seq ?_
    refine C.region ?_
    refine G.bin rfl trivial rfl rfl rfl rfl rfl ?_
    refine G.nil ?_
    refine C.seq ?_
    refine C.cond _ rfl ?_ ?_
    · intro hc1
      generalize hy : bitsS j (x ^^^ BitVec.ofNat 32 xs[i].toNat) = y
      refine C.skip ?_
      refine C.seq ?_
      refine C.block ?_
      refine C.region ?_
      refine G.moveI rfl trivial rfl rfl rfl ?_
      refine G.shr rfl trivial rfl rfl rfl rfl (by omega) ?_
      refine G.fix (d := 23) (v := .int .u32 ((y >>> 1).toNat)) (congrArg (Value.int .u32) (shr32 y)) ?_
      refine G.moveI rfl trivial rfl rfl rfl ?_
      refine G.bin rfl trivial rfl rfl rfl rfl rfl ?_
      refine G.fix (d := 25) (v := .int .u32 ((y &&& 1#32).toNat)) (and32 y 1#32) ?_
      refine G.neg rfl trivial rfl rfl rfl ?_
      refine G.fix (d := 26) (v := .int .u32 ((0#32 - (y &&& 1#32)).toNat)) (congrArg (Value.int .u32) (neg32 (y &&& 1#32))) ?_
      refine G.bin rfl trivial rfl rfl rfl rfl rfl ?_
      refine G.fix (d := 27) (v := .int .u32 ((3988292384#32 &&& (0#32 - (y &&& 1#32))).toNat)) (and32 3988292384#32 (0#32 - (y &&& 1#32))) ?_
      refine G.bin rfl trivial rfl rfl rfl rfl rfl ?_
      refine G.fix (d := 28) (v := .int .u32 ((bitS y).toNat)) (xor32 (y >>> 1) (3988292384#32 &&& (0#32 - (y &&& 1#32)))) ?_
      refine G.assignI rfl trivial rfl rfl rfl ?_
      refine G.nil ?_
      refine C.region ?_
      refine G.add rfl trivial rfl rfl rfl rfl (by omega) ?_
      refine G.moveI rfl trivial rfl rfl rfl ?_
      refine G.nil ?_
      exact ⟨8 - (j + 1), by omega, j + 1, by omega, rfl, rfl, rfl, rfl, rfl, by rw [bitsS_succ, hy]; rfl, rfl, rfl⟩
    · intro hc1
      obtain rfl : j = 8 := by omega
      refine C.exit ?_
      refine C.region ?_
      refine G.add rfl trivial rfl rfl rfl rfl (by omega) ?_
      refine G.moveI rfl trivial rfl rfl rfl ?_
      refine G.nil ?_
      exact ⟨xs.length - (i + 1), by omega, i + 1, by omega, rfl, rfl, rfl, rfl, by rw [take_snoc hlt, List.foldl_append, hx]; rfl, rfl, rfl⟩
  · intro hc0
    obtain rfl : i = xs.length := by omega
    rw [List.take_length]
    refine C.exit ?_
    refine C.seq ?_
    refine C.region ?_
    refine G.moveI rfl trivial rfl rfl rfl ?_
    refine G.compl rfl trivial rfl rfl rfl ?_
    refine G.fix (d := 32) (v := .int .u32 ((moreS s xs).toNat)) (compl32 (xs.foldl byteS (~~~ s))) ?_
    refine G.assignI rfl trivial rfl rfl rfl ?_
    refine G.nil ?_
    refine C.ret ?_
    -- end c0F
    exact ⟨rfl, _, Res.of (rs := [.tmp 4]) rfl rfl, rfl, rfl⟩

theorem sum_spec (W0 : World) (L : List Seg) (a : Option Addr) (c : Nat) (xs : List UInt8) {l : Nat} (hl : l = xs.length) (hn : xs.length ≤ 281474976710656) (hrd : Rd W0 L a (bytesV xs)) :
   FnS Tryz.prog W0 272 #[.slice a l c] L (fun e L' => L' = L ∧ e = .returned (.int .u32 (moreS 0#32 xs).toNat)) := by
  subst hl
  refine FnS.of (args := [.slice a xs.length c]) Tryz.func272 rfl rfl ?_
  refine C.seq ?_
  refine C.region ?_
  refine G.assignI rfl trivial rfl rfl rfl ?_
  refine G.nil ?_
  refine C.seq ?_
  refine C.region ?_
  refine G.moveS rfl trivial rfl rfl rfl ?_
  refine G.call E341 rfl rfl trivial rfl rfl (more_spec W0 L 0#32 a c xs rfl hn hrd) rfl ?_
  rintro e L2 ⟨rfl, rfl⟩
  refine G.assignI rfl trivial rfl rfl rfl ?_
  refine G.nil ?_
  refine C.ret ?_
  -- end 
  exact ⟨rfl, _, Res.of (rs := [.tmp 2]) rfl rfl, rfl, rfl⟩

end Go.Proofs.YtokggoikffcijaaGreatDoor
