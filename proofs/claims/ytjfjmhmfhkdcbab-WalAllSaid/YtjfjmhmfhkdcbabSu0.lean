/-
  Two slots, plainly: numbers as bytes, a slot's sector, what is read out of it.
-/
import Derived.Test.YtjfjmhmfhkdcbabCrc0
import Derived.Test.YtjfjmhmfhkdcbabPg1
namespace Go.Proofs.Ytjfjmhmfhkdcbab
open Go Go.SL Go.RowKit

def be (l n : Nat) : List UInt8 := (List.range l).map fun j => UInt8.ofNat (n / 256 ^ (l - 1 - j))
def beFrom (s : Nat) (xs : List UInt8) : Nat := xs.foldl (fun n c => n * 256 + c.toNat) s
def beVal (xs : List UInt8) : Nat := beFrom 0 xs
theorem be_length (l n : Nat) : (be l n).length = l := by simp [be]
theorem be_succ (l n : Nat) : be (l + 1) n = UInt8.ofNat (n / 256 ^ l) :: be l n := by
  unfold be
  rw [List.range_succ_eq_map, List.map_cons, List.map_map]
  congr 1
  apply List.map_congr_left
  intro j _
  simp only [Function.comp]
  congr 3
  omega
theorem beFrom_be : ∀ (l n s : Nat), beFrom s (be l n) = s * 256 ^ l + n % 256 ^ l
  | 0, n, s => by simp [be, beFrom, Nat.mod_one]
  | l + 1, n, s => by
    rw [be_succ]
    show beFrom (s * 256 + (UInt8.ofNat (n / 256 ^ l)).toNat) (be l n) = _
    have h1 : n % (256 ^ l * 256) = n % 256 ^ l + 256 ^ l * (n / 256 ^ l % 256) := Nat.mod_mul
    have h2 : (UInt8.ofNat (n / 256 ^ l)).toNat = n / 256 ^ l % 256 := UInt8.toNat_ofNat' ..
    rw [beFrom_be l n, h2, Nat.pow_succ, h1, Nat.add_mul, show s * 256 * 256 ^ l = s * (256 ^ l * 256) by rw [Nat.mul_assoc, Nat.mul_comm 256], Nat.mul_comm (n / 256 ^ l % 256)]
    omega
theorem beVal_be {l n : Nat} (h : n < 256 ^ l) : beVal (be l n) = n := by
  unfold beVal
  rw [beFrom_be, Nat.zero_mul, Nat.zero_add, Nat.mod_eq_of_lt h]
theorem beFrom_lt : ∀ (xs : List UInt8) (s : Nat), beFrom s xs < (s + 1) * 256 ^ xs.length
  | [], s => by simp [beFrom]
  | x :: xs, s => by
    have h := beFrom_lt xs (s * 256 + x.toNat)
    have hx := x.toNat_lt
    show beFrom (s * 256 + x.toNat) xs < _
    refine Nat.lt_of_lt_of_le h ?_
    rw [List.length_cons, Nat.pow_succ, show (s + 1) * (256 ^ xs.length * 256) = ((s + 1) * 256) * 256 ^ xs.length by rw [Nat.mul_assoc, Nat.mul_comm 256]]
    exact Nat.mul_le_mul_right _ (by omega)
theorem beVal_lt (xs : List UInt8) : beVal xs < 256 ^ xs.length := by
  have := beFrom_lt xs 0
  rw [Nat.zero_add, Nat.one_mul] at this
  exact this
def sumF (xs : List UInt8) : Nat := (moreS 0#32 xs).toNat
theorem sumF_lt (xs : List UInt8) : sumF xs < 256 ^ 4 := (moreS 0#32 xs).isLt
/-- a slot's sector: behind its sum; whole -/
def bodyS (n : Nat) (b : List UInt8) : List UInt8 := be 8 n ++ (UInt8.ofNat b.length :: (b ++ List.replicate (51 - b.length) 0))
def sectS (n : Nat) (b : List UInt8) : List UInt8 := be 4 (sumF (bodyS n b)) ++ bodyS n b
theorem bodyS_length (n : Nat) {b : List UInt8} (h : b.length ≤ 51) : (bodyS n b).length = 60 := by simp [bodyS, be_length]; omega
theorem sectS_length (n : Nat) {b : List UInt8} (h : b.length ≤ 51) : (sectS n b).length = 64 := by rw [sectS, List.length_append, be_length, bodyS_length n h]
/-- what is read of a sector -/
def secSum (x : List UInt8) : Nat := beVal (x.take 4)
def secTurn (x : List UInt8) : Nat := beVal ((x.drop 4).take 8)
def secLen (x : List UInt8) : Nat := (x[12]?.getD 0).toNat
def secText (x : List UInt8) : List UInt8 := (x.drop 13).take (secLen x)
theorem sectS_drop4 (n : Nat) (b : List UInt8) : (sectS n b).drop 4 = bodyS n b := by
  unfold sectS
  rw [List.drop_append_of_le_length (by rw [be_length]; exact Nat.le_refl _), List.drop_of_length_le (by rw [be_length]; exact Nat.le_refl _), List.nil_append]
theorem sectS_sum (n : Nat) (b : List UInt8) : secSum (sectS n b) = sumF (bodyS n b) := by
  unfold secSum sectS
  rw [List.take_append_of_le_length (by rw [be_length]; exact Nat.le_refl _), List.take_of_length_le (by rw [be_length]; exact Nat.le_refl _)]
  exact beVal_be (sumF_lt _)
theorem sectS_turn {n : Nat} (h : n < 256 ^ 8) (b : List UInt8) : secTurn (sectS n b) = n := by
  unfold secTurn
  rw [sectS_drop4, bodyS, List.take_append_of_le_length (by rw [be_length]; exact Nat.le_refl _), List.take_of_length_le (by rw [be_length]; exact Nat.le_refl _)]
  exact beVal_be h
theorem sectS_12 (n : Nat) (b : List UInt8) : (sectS n b)[12]? = some (UInt8.ofNat b.length) := by
  unfold sectS bodyS
  rw [List.getElem?_append_right (by rw [be_length]; decide), be_length, List.getElem?_append_right (by rw [be_length]; decide), be_length]
  rfl
theorem sectS_len (n : Nat) {b : List UInt8} (h : b.length ≤ 51) : secLen (sectS n b) = b.length := by
  unfold secLen
  rw [sectS_12, Option.getD_some, UInt8.toNat_ofNat']
  omega
theorem sectS_text (n : Nat) {b : List UInt8} (h : b.length ≤ 51) : secText (sectS n b) = b := by
  unfold secText
  rw [sectS_len n h, show (13 : Nat) = 4 + 9 by rfl, ← List.drop_drop, sectS_drop4]
  unfold bodyS
  rw [show (9 : Nat) = (be 8 n).length + 1 by rw [be_length], List.drop_length_add_append, List.drop_succ_cons, List.drop_zero, List.take_append_of_le_length (Nat.le_refl _), List.take_length]
/-- a byte of a number, written -/
theorem be_at {l n i : Nat} (h : i < l) : (be l n)[l - 1 - i]? = some (UInt8.ofNat (n / 256 ^ i)) := by
  unfold be
  rw [List.getElem?_map, List.getElem?_range (by omega), Option.map_some]
  congr 3
  congr 1
  omega
end Go.Proofs.Ytjfjmhmfhkdcbab
