/-
  The law AllocAll: plain part.
-/
import Derived.Test.YtoegcjgdaikfiaaAl5
import Derived.Test.YtoegcjgdaikfiaaSLO
namespace Go.Proofs.Ytoegcjgdaikfiaa
open Go Go.SL Go.RowKit

def and3 (x : UInt8) : UInt8 := UInt8.ofBitVec (x.toBitVec &&& 3#8)
theorem and3_val (x : UInt8) : Value.int .u8 (IntKind.u8.wrap (BitVec.ofInt 8 (x.toNat : Int) &&& BitVec.ofInt 8 3).toNat) = .int .u8 ((and3 x).toNat : Int) := by
  rw [w8, of8]
  rfl
theorem three_bit (i : Nat) (h2 : 2 ≤ i) (h8 : i < 8) : (3#8).getLsbD i = false := by
  match i, h2, h8 with
  | 2, _, _ | 3, _, _ | 4, _, _ | 5, _, _ | 6, _, _ | 7, _, _ => rfl
theorem and3_ext {x y : UInt8} (h : ∀ i, i < 2 → ub x i = ub y i) : and3 x = and3 y := by
  unfold and3
  congr 1
  apply BitVec.eq_of_getLsbD_eq
  intro i hi
  rw [BitVec.getLsbD_and, BitVec.getLsbD_and]
  by_cases h2 : i < 2
  · have := h i h2
    rw [show x.toBitVec.getLsbD i = ub x i from rfl, show y.toBitVec.getLsbD i = ub y i from rfl, this]
  · rw [three_bit i (by omega) hi, Bool.and_false, Bool.and_false]
theorem and3_twice (x : UInt8) : and3 (and3 x) = and3 x := by
  refine and3_ext fun i hi => ?_
  show (x.toBitVec &&& 3#8).getLsbD i = x.toBitVec.getLsbD i
  rw [BitVec.getLsbD_and]
  have : (3#8).getLsbD i = true := by
    match i, hi with
    | 0, _ | 1, _ => rfl
  rw [this, Bool.and_true]
theorem and3_high (x : UInt8) {i : Nat} (h2 : 2 ≤ i) (h8 : i < 8) : ub (and3 x) i = false := by
  show (x.toBitVec &&& 3#8).getLsbD i = false
  rw [BitVec.getLsbD_and, three_bit i h2 h8, Bool.and_false]
/-- the page that the law begins with, as far as it is filled; whole -/
def fillP (b : UInt8) (i : Nat) : List UInt8 := List.replicate 5 0 ++ (List.replicate (i - 5) b ++ List.replicate (256 - i) 0)
def startP (b : UInt8) : List UInt8 := and3 b :: (List.replicate 4 0 ++ List.replicate 251 b)
theorem fillP_length (b : UInt8) {i : Nat} (h : 5 ≤ i ∧ i ≤ 256) : (fillP b i).length = 256 := by
  unfold fillP
  rw [List.length_append, List.length_append, List.length_replicate, List.length_replicate, List.length_replicate]
  omega
theorem fillP_start (b : UInt8) : List.replicate 256 0 = fillP b 5 := by
  unfold fillP
  rw [show 5 - 5 = 0 from rfl, List.replicate_zero, List.nil_append, List.replicate_append_replicate]
theorem fillP_step (b : UInt8) {i : Nat} (h : 5 ≤ i ∧ i < 256) : (fillP b i).set i b = fillP b (i + 1) := by
  unfold fillP
  rw [List.set_append_right _ _ (by rw [List.length_replicate]; omega), List.length_replicate, List.set_append_right _ _ (by rw [List.length_replicate]; omega), List.length_replicate, show i - 5 - (i - 5) = 0 by omega, show 256 - i = (256 - (i + 1)) + 1 by omega, List.replicate_succ (n := 256 - (i + 1)), List.set_cons_zero, show i + 1 - 5 = (i - 5) + 1 by omega, List.replicate_succ' (n := i - 5)]
  simp only [List.append_assoc, List.cons_append, List.nil_append]
theorem fillP_end (b : UInt8) : (fillP b 256).set 0 (and3 b) = startP b := by
  unfold fillP startP
  rw [show 256 - 256 = 0 from rfl, List.replicate_zero, List.append_nil, show List.replicate 5 (0 : UInt8) = 0 :: List.replicate 4 0 from rfl, List.cons_append, List.set_cons_zero]
theorem startP_length (b : UInt8) : (startP b).length = 256 := by
  unfold startP
  rw [List.length_cons, List.length_append, List.length_replicate, List.length_replicate]
theorem startP_drop (b : UInt8) : (startP b).drop 5 = List.replicate 251 b := rfl
theorem startP_used (b : UInt8) {k : Nat} (h2 : 2 ≤ k) (h : k < 32) : usedP (startP b) k = false := by
  unfold usedP
  by_cases h8 : k / 8 = 0
  · rw [h8]
    exact and3_high b (by omega) (Nat.mod_lt _ (by decide))
  · have hz : (startP b)[k / 8]?.getD 0 = 0 := by
      have : ∀ j, 1 ≤ j → j < 4 → (startP b)[j]?.getD 0 = 0 := fun j h1 h4 => by
        match j, h1, h4 with
        | 1, _, _ | 2, _, _ | 3, _, _ => rfl
      exact this _ (by omega) (by omega)
    rw [hz]
    exact Nat.zero_testBit _
/-- what of the first page stays -/
def Keeps (pg : Nat → List UInt8) (b : UInt8) : Prop := and3 ((pg 1)[0]?.getD 0) = and3 b ∧ (pg 1).drop 5 = List.replicate 251 b
theorem keeps_start (b : UInt8) (c : Nat) : Keeps (bkPage (some (c, startP b))) b := ⟨and3_twice b, rfl⟩
theorem keeps_set {pb : List UInt8} {b : UInt8} (hl : pb.length = 256) (h : and3 (pb[0]?.getD 0) = and3 b ∧ pb.drop 5 = List.replicate 251 b) {j : Nat} (hj : j < 5) {c : UInt8} (hc : j = 0 → and3 c = and3 b) : and3 ((pb.set j c)[0]?.getD 0) = and3 b ∧ (pb.set j c).drop 5 = List.replicate 251 b := by
  refine ⟨?_, ?_⟩
  · rw [List.getElem?_set]
    by_cases h0 : j = 0
    · rw [if_pos h0, if_pos (by omega), Option.getD_some]
      exact hc h0
    · rw [if_neg h0]
      exact h.1
  · rw [List.drop_set_of_lt hj]
    exact h.2
theorem Keeps.setU {pg : Nat → List UInt8} {b : UInt8} (h : Keeps pg b) (hl : (pg 1).length = 256) {k : Nat} (hk : 2 ≤ k ∧ k < 32) : and3 ((setU (pg 1) k)[0]?.getD 0) = and3 b ∧ (setU (pg 1) k).drop 5 = List.replicate 251 b := by
  refine keeps_set hl h (by omega) fun h0 => ?_
  rw [h0, ← h.1]
  refine and3_ext fun i hi => ?_
  rw [ub_or _ (Nat.mod_lt _ (by decide)) (by omega), show decide (i = k % 8) = false from decide_eq_false (by omega), Bool.or_false]
theorem Keeps.clrU {pg : Nat → List UInt8} {b : UInt8} (h : Keeps pg b) (hl : (pg 1).length = 256) {k : Nat} (hk : 2 ≤ k ∧ k < 32) : and3 ((clrU (pg 1) k)[0]?.getD 0) = and3 b ∧ (clrU (pg 1) k).drop 5 = List.replicate 251 b := by
  refine keeps_set hl h (by omega) fun h0 => ?_
  rw [h0, ← h.1]
  refine and3_ext fun i hi => ?_
  rw [ub_cl _ (Nat.mod_lt _ (by decide)) (by omega), show decide (i = k % 8) = false from decide_eq_false (by omega), Bool.not_false, Bool.and_true]
theorem keeps_one {pg : Nat → List UInt8} {b : UInt8} {x : List UInt8} (h : and3 (x[0]?.getD 0) = and3 b ∧ x.drop 5 = List.replicate 251 b) : Keeps (updP pg 1 x) b := by
  unfold Keeps
  rw [updP_same]
  exact h
theorem keeps_other {pg : Nat → List UInt8} {b : UInt8} (h : Keeps pg b) {k : Nat} (hk : k ≠ 1) (x : List UInt8) : Keeps (updP pg k x) b := by
  unfold Keeps
  rw [updP_ne _ _ (fun e => hk e.symm)]
  exact h
theorem Us.other {pg : Nat → List UInt8} {u : Nat → Bool} {r : Nat} (h : Us pg u r) {k : Nat} (hk : k ≠ 1) (x : List UInt8) : Us (updP pg k x) u r := by
  have e : updP pg k x 1 = pg 1 := updP_ne _ _ (fun e => hk e.symm)
  exact ⟨by rw [e]; exact h.len, fun j hj => by rw [e]; exact h.used j hj, by rw [e]; exact h.root⟩
/-- all that the law's round keeps -/
structure All (pg : Nat → List UInt8) (u : Nat → Bool) (r : Nat) (U : List Bool) (b : UInt8) : Prop where
  us : Us pg u r
  keeps : Keeps pg b
  len : U.length = 32
  eq : ∀ k, 2 ≤ k → k < 32 → U[k]? = some (u k)
  root : r = 0 ∨ (2 ≤ r ∧ r < 32)
theorem All.start (b : UInt8) (c : Nat) : All (bkPage (some (c, startP b))) (fun k => usedP (startP b) k) 0 (List.replicate 32 false) b := by
  refine ⟨⟨startP_length b, fun k _ => rfl, rfl⟩, keeps_start b c, by simp, fun k h2 hk => ?_, .inl rfl⟩
  rw [List.getElem?_replicate, if_pos hk, startP_used b h2 hk]
theorem All.taken {pg : Nat → List UInt8} {u : Nat → Bool} {r : Nat} {U : List Bool} {b : UInt8} (h : All pg u r U b) {k : Nat} (hk : 2 ≤ k ∧ k < 32) (x : List UInt8) : All (updP (updP (updP pg 1 (setU (pg 1) k)) k zero256) k x) (fun j => u j || decide (j = k)) r (U.set k true) b := by
  refine ⟨(h.us.taken hk).other (by omega) x, keeps_other (keeps_other (keeps_one (h.keeps.setU h.us.len hk)) (by omega) _) (by omega) _, by rw [List.length_set]; exact h.len, fun j h2 hj => ?_, h.root⟩
  rw [List.getElem?_set]
  by_cases e : k = j
  · rw [if_pos e, if_pos (by rw [h.len]; omega), show decide (j = k) = true from decide_eq_true e.symm, Bool.or_true]
  · rw [if_neg e, h.eq j h2 hj, show decide (j = k) = false from decide_eq_false (fun h => e h.symm), Bool.or_false]
theorem All.freed {pg : Nat → List UInt8} {u : Nat → Bool} {r : Nat} {U : List Bool} {b : UInt8} (h : All pg u r U b) {k : Nat} (hk : 2 ≤ k ∧ k < 32) : All (updP pg 1 (clrU (pg 1) k)) (fun j => u j && !decide (j = k)) r (U.set k false) b := by
  refine ⟨h.us.freed hk.2, keeps_one (h.keeps.clrU h.us.len hk), by rw [List.length_set]; exact h.len, fun j h2 hj => ?_, h.root⟩
  rw [List.getElem?_set]
  by_cases e : k = j
  · rw [if_pos e, if_pos (by rw [h.len]; omega), show decide (j = k) = true from decide_eq_true e.symm, Bool.not_true, Bool.and_false]
  · rw [if_neg e, h.eq j h2 hj, show decide (j = k) = false from decide_eq_false (fun h => e h.symm), Bool.not_false, Bool.and_true]
theorem All.rooted {pg : Nat → List UInt8} {u : Nat → Bool} {r : Nat} {U : List Bool} {b : UInt8} (h : All pg u r U b) {i : Nat} (hi : i = 0 ∨ (2 ≤ i ∧ i < 32)) : All (updP pg 1 ((pg 1).set 4 (UInt8.ofNat i))) u i U b :=
  ⟨h.us.rooted (by omega), keeps_one (keeps_set h.us.len h.keeps (by decide) (fun h0 => by cases h0)), h.len, h.eq, hi⟩
theorem All.has {pg : Nat → List UInt8} {u : Nat → Bool} {r : Nat} {U : List Bool} {b : UInt8} (h : All pg u r U b) {k : Int} (hk : 2 ≤ k ∧ k ≤ 31) : ∃ x, U[k.toNat]? = some x ∧ hasB (pg 1) k = x := by
  obtain ⟨j, rfl⟩ : ∃ j : Nat, k = j := ⟨k.toNat, by omega⟩
  refine ⟨u j, ?_, ?_⟩
  · rw [Int.toNat_natCast]
    exact h.eq j (by omega) (by omega)
  · rw [h.us.has (by omega), decide_eq_true (by omega), Bool.true_and]
theorem has_out (pb : List UInt8) {k : Int} (hk : ¬ (2 ≤ k ∧ k ≤ 31)) : hasB pb k = false := by
  unfold hasB
  rw [decide_eq_false (by omega), Bool.false_and]
theorem countU_end (pb : List UInt8) : countU pb 34 = countU pb 32 := by
  rw [countU_succ, countU_succ, if_neg (by rw [has_out pb (by omega)]; simp), if_neg (by rw [has_out pb (by omega)]; simp)]
  rfl
/-- the least free one that is above k -/
def Least (U : List Bool) (k w : Nat) : Prop := (w = 0 ∧ ∀ j, k < j → j < 32 → U[j]? = some true) ∨ (k < w ∧ w < 32 ∧ U[w]? = some false ∧ ∀ j, k < j → j < w → U[j]? = some true)
theorem Least.step {U : List Bool} {k w : Nat} (h : Least U (k + 1) w) {x : Bool} (hx : U[k + 1]? = some x) (hk : k + 1 < 32) : Least U k (if x = true then w else k + 1) := by
  cases x with
  | false =>
    rw [if_neg (by simp)]
    exact .inr ⟨by omega, hk, hx, fun j h1 h2 => by omega⟩
  | true =>
    rw [if_pos rfl]
    have key : ∀ j, k < j → j ≠ k + 1 → k + 1 < j := fun j h1 h2 => by omega
    rcases h with ⟨h1, h2⟩ | ⟨h1, h2, h3, h4⟩
    · refine .inl ⟨h1, fun j h5 h6 => ?_⟩
      by_cases e : j = k + 1
      · rw [e]; exact hx
      · exact h2 j (key j h5 e) h6
    · refine .inr ⟨by omega, h2, h3, fun j h5 h6 => ?_⟩
      by_cases e : j = k + 1
      · rw [e]; exact hx
      · exact h4 j (key j h5 e) h6
end Go.Proofs.Ytoegcjgdaikfiaa
