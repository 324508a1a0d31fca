/-
  Low bits of a whole number; a byte of any whole number; slots told anew. No program in sight.
-/
import Derived.Test.YtkiiafmcfdfbhaaSLT
namespace Go.SL
open Go Go.RowKit

theorem andLow (a : Int) (m : Nat) (hm : m < 1000000) : ∃ j : Nat, j ≤ m ∧ IntKind.i64.wrap ((BitVec.ofInt IntKind.i64.bits a &&& BitVec.ofInt IntKind.i64.bits (m : Int)).toNat : Int) = (j : Int) := by
  refine ⟨(BitVec.ofInt IntKind.i64.bits a &&& BitVec.ofInt IntKind.i64.bits (m : Int)).toNat, ?_, ?_⟩
  · rw [BitVec.toNat_and]
    refine Nat.le_trans Nat.and_le_right ?_
    rw [BitVec.ofInt_natCast, BitVec.toNat_ofNat]
    exact Nat.mod_le _ _
  · have h : (BitVec.ofInt IntKind.i64.bits a &&& BitVec.ofInt IntKind.i64.bits (m : Int)).toNat ≤ m := by
      rw [BitVec.toNat_and]
      refine Nat.le_trans Nat.and_le_right ?_
      rw [BitVec.ofInt_natCast, BitVec.toNat_ofNat]
      exact Nat.mod_le _ _
    generalize (BitVec.ofInt IntKind.i64.bits a &&& BitVec.ofInt IntKind.i64.bits (m : Int)).toNat = k at h
    simp only [IntKind.wrap, IntKind.bits, IntKind.signed]
    simp
    omega
theorem u8_any (n : Int) : ∃ c : UInt8, IntKind.u8.wrap n = (c.toNat : Int) := by
  have h : 0 ≤ IntKind.u8.wrap n ∧ IntKind.u8.wrap n < 256 := by
    simp only [IntKind.wrap, IntKind.bits, IntKind.signed]
    simp
    omega
  exact ⟨UInt8.ofNat (IntKind.u8.wrap n).toNat, by simp; omega⟩
section
variable {P : Program} {W0 : World} {n : Nat} {SQ : SPost} {F : Nat → Value} {D : List Deferred} {L : List Seg} {ops : Array Oper} {rest : List Oper} {K : List Seg} {T : List Nat} {listed : Array Bool} {fuel : Nat}
theorem G.byte {d : Nat} (h : ∃ m, F d = .int .u8 (IntKind.u8.wrap m)) (k : ∀ c : UInt8, G P W0 n SQ ops rest (upd F d (.int .u8 (c.toNat : Int))) D L) : G P W0 n SQ ops rest F D L := by
  obtain ⟨m, h⟩ := h
  obtain ⟨c, hc⟩ := u8_any m
  exact G.fix (by rw [h, hc]) (k c)
theorem GA.byte {d : Nat} (h : ∃ m, F d = .int .u8 (IntKind.u8.wrap m)) (k : ∀ c : UInt8, GA P W0 n SQ ops K T fuel listed (upd F d (.int .u8 (c.toNat : Int))) D L) : GA P W0 n SQ ops K T fuel listed F D L := by
  obtain ⟨m, h⟩ := h
  obtain ⟨c, hc⟩ := u8_any m
  exact GA.fix (by rw [h, hc]) (k c)
theorem G.low {d : Nat} (m : Nat) (hm : m < 1000000) (h : ∃ a, F d = .int .i64 (IntKind.i64.wrap ((BitVec.ofInt IntKind.i64.bits a &&& BitVec.ofInt IntKind.i64.bits (m : Int)).toNat : Int))) (k : ∀ j : Nat, j ≤ m → G P W0 n SQ ops rest (upd F d (.int .i64 (j : Int))) D L) : G P W0 n SQ ops rest F D L := by
  obtain ⟨a, h⟩ := h
  obtain ⟨j, hj, e⟩ := andLow a m hm
  exact G.fix (by rw [h, e]) (k j hj)
theorem GA.low {d : Nat} (m : Nat) (hm : m < 1000000) (h : ∃ a, F d = .int .i64 (IntKind.i64.wrap ((BitVec.ofInt IntKind.i64.bits a &&& BitVec.ofInt IntKind.i64.bits (m : Int)).toNat : Int))) (k : ∀ j : Nat, j ≤ m → GA P W0 n SQ ops K T fuel listed (upd F d (.int .i64 (j : Int))) D L) : GA P W0 n SQ ops K T fuel listed F D L := by
  obtain ⟨a, h⟩ := h
  obtain ⟨j, hj, e⟩ := andLow a m hm
  exact GA.fix (by rw [h, e]) (k j hj)
end
end Go.SL
