/-
  Low bits of a whole number; a byte of any whole number; slots told anew. No program in sight.
-/
import Derived.Test.YtoegcjgdaikfiaaSLT
namespace Go.SL
open Go Go.RowKit

theorem andLow (a : Int) (m : Nat) (hm : m < 1000000) : ∃ j : Nat, j ≤ m ∧ IntKind.i64.wrap ((BitVec.ofInt IntKind.i64.bits a &&& BitVec.ofInt IntKind.i64.bits (m : Int)).toNat : Int) = (j : Int) := by
  refine ⟨(BitVec.ofInt IntKind.i64.bits a &&& BitVec.ofInt IntKind.i64.bits (m : Int)).toNat, ?_, ?_⟩
  · rw [BitVec.toNat_and]
    refine Nat.le_trans Nat.and_le_right ?_
    rw [BitVec.ofInt_natCast, BitVec.toNat_ofNat]
    exact Nat.mod_le _ _
  · have h : (BitVec.ofInt IntKind.i64.bits a &&& BitVec.ofInt IntKind.i64.bits (m : Int)).toNat ≤ m := by
      rw [BitVec.toNat_and]
      refine Nat.le_trans Nat.and_le_right ?_
      rw [BitVec.ofInt_natCast, BitVec.toNat_ofNat]
      exact Nat.mod_le _ _
    generalize (BitVec.ofInt IntKind.i64.bits a &&& BitVec.ofInt IntKind.i64.bits (m : Int)).toNat = k at h
    simp only [IntKind.wrap, IntKind.bits, IntKind.signed]
    simp
    omega
theorem u8_any (n : Int) : ∃ c : UInt8, IntKind.u8.wrap n = (c.toNat : Int) := by
  have h : 0 ≤ IntKind.u8.wrap n ∧ IntKind.u8.wrap n < 256 := by
    simp only [IntKind.wrap, IntKind.bits, IntKind.signed]
    simp
    omega
  exact ⟨UInt8.ofNat (IntKind.u8.wrap n).toNat, by simp; omega⟩
section
variable {P : Program} {W0 : World} {n : Nat} {SQ : SPost} {F : Nat → Value} {D : List Deferred} {L : List Seg} {ops : Array Oper} {rest : List Oper} {K : List Seg} {T : List Nat} {listed : Array Bool} {fuel : Nat}
theorem G.byte {d : Nat} (h : ∃ m, F d = .int .u8 (IntKind.u8.wrap m)) (k : ∀ c : UInt8, G P W0 n SQ ops rest (upd F d (.int .u8 (c.toNat : Int))) D L) : G P W0 n SQ ops rest F D L := by
  obtain ⟨m, h⟩ := h
  obtain ⟨c, hc⟩ := u8_any m
  exact G.fix (by rw [h, hc]) (k c)
theorem GA.byte {d : Nat} (h : ∃ m, F d = .int .u8 (IntKind.u8.wrap m)) (k : ∀ c : UInt8, GA P W0 n SQ ops K T fuel listed (upd F d (.int .u8 (c.toNat : Int))) D L) : GA P W0 n SQ ops K T fuel listed F D L := by
  obtain ⟨m, h⟩ := h
  obtain ⟨c, hc⟩ := u8_any m
  exact GA.fix (by rw [h, hc]) (k c)
theorem G.low {d : Nat} (m : Nat) (hm : m < 1000000) (h : ∃ a, F d = .int .i64 (IntKind.i64.wrap ((BitVec.ofInt IntKind.i64.bits a &&& BitVec.ofInt IntKind.i64.bits (m : Int)).toNat : Int))) (k : ∀ j : Nat, j ≤ m → G P W0 n SQ ops rest (upd F d (.int .i64 (j : Int))) D L) : G P W0 n SQ ops rest F D L := by
  obtain ⟨a, h⟩ := h
  obtain ⟨j, hj, e⟩ := andLow a m hm
  exact G.fix (by rw [h, e]) (k j hj)
theorem GA.low {d : Nat} (m : Nat) (hm : m < 1000000) (h : ∃ a, F d = .int .i64 (IntKind.i64.wrap ((BitVec.ofInt IntKind.i64.bits a &&& BitVec.ofInt IntKind.i64.bits (m : Int)).toNat : Int))) (k : ∀ j : Nat, j ≤ m → GA P W0 n SQ ops K T fuel listed (upd F d (.int .i64 (j : Int))) D L) : GA P W0 n SQ ops K T fuel listed F D L := by
  obtain ⟨a, h⟩ := h
  obtain ⟨j, hj, e⟩ := andLow a m hm
  exact GA.fix (by rw [h, e]) (k j hj)
end
/-! ### The heap -/
section mem
variable {W0 w : World} {L : List Seg}
theorem Mem.intoMid {x y : Nat × SObj} {pre post : Seg} (h : Mem W0 w ([x] :: (pre ++ y :: post) :: L)) : Mem W0 w ((pre ++ x :: post) :: L) := by
  have h1 : Mem W0 w ((pre ++ x :: y :: post) :: L) := h.of_flat (by
    simp only [List.flatten_cons, List.append_assoc, List.cons_append, List.nil_append]
    exact (List.perm_middle (l₁ := pre) (a := x) (l₂ := y :: (post ++ L.flatten))).symm)
  exact h1.fewer (by
    simp only [List.flatten_cons, List.append_assoc, List.cons_append]
    exact List.Sublist.append_left (List.Sublist.cons_cons x (List.sublist_cons_self y _)) pre)
theorem Mem.intoEnd {x : Nat × SObj} {s : Seg} (h : Mem W0 w ([x] :: s :: L)) : Mem W0 w ((s ++ [x]) :: L) := h.of_flat (by
  simp only [List.flatten_cons, List.append_assoc, List.cons_append, List.nil_append]
  exact (List.perm_middle (l₁ := s) (a := x) (l₂ := L.flatten)).symm)
theorem Mem.outMid {x : Nat × SObj} {pre post : Seg} (h : Mem W0 w ((pre ++ x :: post) :: L)) : Mem W0 w ([x] :: (pre ++ post) :: L) := h.of_flat (by
  simp only [List.flatten_cons, List.append_assoc, List.cons_append, List.nil_append]
  exact List.perm_middle (l₁ := pre) (a := x) (l₂ := post ++ L.flatten))
theorem Mem.backMid {x : Nat × SObj} {pre post : Seg} (h : Mem W0 w ([x] :: (pre ++ post) :: L)) : Mem W0 w ((pre ++ x :: post) :: L) := h.of_flat (by
  simp only [List.flatten_cons, List.append_assoc, List.cons_append, List.nil_append]
  exact (List.perm_middle (l₁ := pre) (a := x) (l₂ := post ++ L.flatten)).symm)
end mem
end Go.SL
