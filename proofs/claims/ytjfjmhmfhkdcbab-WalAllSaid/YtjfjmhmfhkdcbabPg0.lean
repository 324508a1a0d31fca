/-
  A write to the device in one, pages walked.
-/
import Derived.Test.YtjfjmhmfhkdcbabDv4
namespace Go.Proofs.Ytjfjmhmfhkdcbab
open Go Go.SL Go.RowKit

def wr (d : Dv) (i : Int) (b : List UInt8) : Dv × Int :=
  if d.isDead then (d, 5) else if ¬ (0 ≤ i ∧ i < d.l.length) then (d, 3) else if 64 < b.length then (d, 1) else (d.put i.toNat b, 0)
theorem wr_ok {d : Dv} (h : d.ok) (i : Int) (b : List UInt8) : (wr d i b).1.ok := by
  unfold wr
  split
  · exact h
  · split
    · exact h
    · split
      · exact h
      · exact Dv.put_ok h (by simp_all) (by omega)
theorem wr_length (d : Dv) (i : Int) (b : List UInt8) : (wr d i b).1.l.length = d.l.length := by
  unfold wr
  split
  · rfl
  · split
    · rfl
    · split
      · rfl
      · simp [Dv.put]
section dev
variable (W0 : World) (S L0 : List Seg) (bd bl : Nat) (d : Dv)
theorem write_spec (hd : d.ok) (i : Int) (a : Option Addr) (m c : Nat) (b : List UInt8) (hm : m = b.length) (hr : ∀ d', Rd W0 (S ++ (devSeg bd bl d' :: L0)) a (bytesV b)) :
    FnS Try.prog W0 34 #[ptr bd, .int .i64 i, .slice a m c] (S ++ (devSeg bd bl d :: L0)) (fun e L' => L' = S ++ (devSeg bd bl (wr d i b).1 :: L0) ∧ e = .returned (.int .i64 (wr d i b).2)) := by
  subst hm
  unfold wr
  by_cases h1 : d.isDead = true
  · rw [if_pos h1]
    exact write_dead W0 S L0 bd bl d h1 i a b.length c
  · rw [if_neg h1]
    have h1' : d.isDead = false := by simpa using h1
    by_cases h2 : 0 ≤ i ∧ i < d.l.length
    · obtain ⟨k, rfl⟩ : ∃ k : Nat, i = k := ⟨i.toNat, by omega⟩
      rw [if_neg (by simpa using h2)]
      by_cases h3 : 64 < b.length
      · rw [if_pos h3]
        exact write_form W0 S L0 bd bl d h1' k (by omega) a b.length c h3
      · rw [if_neg h3]
        exact write_ok W0 S L0 bd bl d hd h1' k (by omega) a c b (by omega) (hr _)
    · rw [if_pos h2]
      exact write_out W0 S L0 bd bl d h1' i h2 a b.length c
def part (b : List UInt8) (k : Nat) : List UInt8 := (b.drop (64 * k)).take 64
def pageW (no : Int) (b : List UInt8) : Nat → Dv → Dv × Int
  | 0, d => (d, 0)
  | k + 1, d => if (wr d (2 + 4 * no + (3 - k : Nat)) (part b (3 - k))).2 = 0 then pageW no b k (wr d (2 + 4 * no + (3 - k : Nat)) (part b (3 - k))).1 else wr d (2 + 4 * no + (3 - k : Nat)) (part b (3 - k))
theorem pageW_ok (no : Int) (b : List UInt8) : ∀ (k : Nat) (d : Dv), d.ok → (pageW no b k d).1.ok
  | 0, d, h => h
  | k + 1, d, h => by
    unfold pageW
    split
    · exact pageW_ok no b k _ (wr_ok h _ _)
    · exact wr_ok h _ _
theorem pageW_length (no : Int) (b : List UInt8) : ∀ (k : Nat) (d : Dv), (pageW no b k d).1.l.length = d.l.length
  | 0, d => rfl
  | k + 1, d => by
    unfold pageW
    split
    · rw [pageW_length no b k, wr_length]
    · exact wr_length _ _ _
/-! ### A page is read -/
def pagePart (l : List Sec) (n i : Nat) : List UInt8 := ((l.drop (2 + 4 * n)).take i).flatMap Sec.now
def pageOf (d : Dv) (n : Nat) : List UInt8 := pagePart d.l n 4
theorem pagePart_succ {l : List Sec} {n i : Nat} (h : 2 + 4 * n + i < l.length) : pagePart l n (i + 1) = pagePart l n i ++ l[2 + 4 * n + i].now := by
  unfold pagePart
  rw [List.take_succ_eq_append_getElem (by simp; omega)]
  simp
theorem pagePart_length {l : List Sec} (h : ∀ s ∈ l, s.ok) {n : Nat} : ∀ {i : Nat}, 2 + 4 * n + i ≤ l.length → (pagePart l n i).length = 64 * i
  | 0, _ => rfl
  | i + 1, hi => by
    rw [pagePart_succ (by omega), List.length_append, pagePart_length h (by omega), (h _ (List.getElem_mem _)).1]
    omega
end dev
end Go.Proofs.Ytjfjmhmfhkdcbab
