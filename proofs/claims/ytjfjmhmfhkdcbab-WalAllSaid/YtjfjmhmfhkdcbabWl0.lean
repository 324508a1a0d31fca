/-
  The log, plainly: numbers as bytes, rings, records one behind the other; how it lies in memory.
-/
import Derived.Test.YtjfjmhmfhkdcbabBig
import Derived.Test.YtjfjmhmfhkdcbabSLZ
import Derived.Test.YtjfjmhmfhkdcbabSu4
namespace Go.Proofs.Ytjfjmhmfhkdcbab
open Go Go.SL Go.RowKit

/-! ### Numbers as bytes -/
def leb (u : Nat) : List UInt8 := if h : u < 128 then [UInt8.ofNat u] else UInt8.ofNat (u % 128 + 128) :: leb (u / 128)
termination_by u
decreasing_by omega
theorem leb_lt {u : Nat} (h : u < 128) : leb u = [UInt8.ofNat u] := by rw [leb, dif_pos h]
theorem leb_ge {u : Nat} (h : ¬ u < 128) : leb u = UInt8.ofNat (u % 128 + 128) :: leb (u / 128) := by rw [leb, dif_neg h]
theorem leb_length : ∀ (k : Nat) {u : Nat}, u < 128 ^ (k + 1) → (leb u).length ≤ k + 1
  | 0, u, h => by rw [leb_lt (by simpa using h)]; simp
  | k + 1, u, h => by
    by_cases h1 : u < 128
    · rw [leb_lt h1]; simp
    · rw [leb_ge h1, List.length_cons]
      have := leb_length k (u := u / 128) (by rw [Nat.div_lt_iff_lt_mul (by decide)]; rw [Nat.pow_succ] at h; exact h)
      omega
theorem leb_pos (u : Nat) : 0 < (leb u).length := by
  by_cases h : u < 128
  · rw [leb_lt h]; simp
  · rw [leb_ge h]; simp
def num (n : Nat) : List UInt8 := leb (2 * n)
theorem num_length {n : Nat} (h : n < 1099511627776) : (num n).length ≤ 6 := leb_length 5 (by omega)
def txt (b e : Nat) : List UInt8 := num b ++ num e
theorem txt_length {b e : Nat} (hb : b < 1099511627776) (he : e < 1099511627776) : (txt b e).length ≤ 12 := by
  have h1 := num_length hb
  have h2 := num_length he
  simp [txt]
  omega

/-! ### Rings -/
def Has (R : Nat → UInt8) (a : Nat) (xs : List UInt8) : Prop := ∀ j (h : j < xs.length), R ((a + j) % 65536) = xs[j]
theorem Has.nil (R : Nat → UInt8) (a : Nat) : Has R a [] := fun j h => absurd h (Nat.not_lt_zero j)
theorem Has.append {R : Nat → UInt8} {a : Nat} {xs ys : List UInt8} (h1 : Has R a xs) (h2 : Has R (a + xs.length) ys) : Has R a (xs ++ ys) := fun j h => by
  rw [List.length_append] at h
  by_cases hj : j < xs.length
  · rw [List.getElem_append_left hj]; exact h1 j hj
  · rw [List.getElem_append_right (by omega), ← h2 (j - xs.length) (by omega)]
    congr 2
    omega
theorem Has.left {R : Nat → UInt8} {a : Nat} {xs ys : List UInt8} (h : Has R a (xs ++ ys)) : Has R a xs := fun j hj => by
  rw [h j (by rw [List.length_append]; omega), List.getElem_append_left hj]
theorem Has.right {R : Nat → UInt8} {a : Nat} {xs ys : List UInt8} (h : Has R a (xs ++ ys)) : Has R (a + xs.length) ys := fun j hj => by
  have := h (xs.length + j) (by rw [List.length_append]; omega)
  rw [List.getElem_append_right (by omega), ← Nat.add_assoc] at this
  rw [this]
  congr 1
  omega
def putR (R : Nat → UInt8) : Nat → List UInt8 → Nat → UInt8
  | _, [] => R
  | e, x :: xs => putR (fun p => if p = e % 65536 then x else R p) (e + 1) xs
theorem putR_other : ∀ (xs : List UInt8) (R : Nat → UInt8) (e p : Nat), (∀ j, j < xs.length → (e + j) % 65536 ≠ p) → putR R e xs p = R p
  | [], _, _, _, _ => rfl
  | x :: xs, R, e, p, h => by
    rw [putR, putR_other xs _ (e + 1) p (fun j hj => by rw [show e + 1 + j = e + (j + 1) by omega]; exact h (j + 1) (by simpa using hj))]
    exact if_neg (fun hp => h 0 (by simp) (by simpa using hp.symm))
theorem putR_has : ∀ (xs : List UInt8) (R : Nat → UInt8) (e : Nat), xs.length ≤ 65536 → Has (putR R e xs) e xs
  | [], R, e, _ => Has.nil _ _
  | x :: xs, R, e, h => fun j hj => by
    simp only [List.length_cons] at h hj
    cases j with
    | zero =>
      rw [putR, putR_other xs _ (e + 1) _ (fun j hj => by omega)]
      simp
    | succ j =>
      rw [putR, show e + (j + 1) = e + 1 + j by omega]
      exact putR_has xs _ (e + 1) (by omega) j (by omega)
theorem putR_keep {R : Nat → UInt8} {a e : Nat} {xs ys : List UInt8} (h : Has R a ys) (h1 : a + ys.length ≤ e) (h2 : e + xs.length ≤ a + 65536) : Has (putR R e xs) a ys := fun j hj => by
  rw [putR_other xs R e _ (fun i hi => by omega)]
  exact h j hj
theorem putR_append : ∀ (xs ys : List UInt8) (R : Nat → UInt8) (e : Nat), putR R e (xs ++ ys) = putR (putR R e xs) (e + xs.length) ys
  | [], _, _, _ => rfl
  | x :: xs, ys, R, e => by
    rw [List.cons_append, putR, putR, putR_append xs ys, List.length_cons, show e + 1 + xs.length = e + (xs.length + 1) by omega]

/-! ### Records -/
def enc (b : List UInt8) : List UInt8 := be 4 b.length ++ b
def strm (rs : List (List UInt8)) : List UInt8 := rs.flatMap enc
def size (rs : List (List UInt8)) : Nat := (strm rs).length
theorem enc_length (b : List UInt8) : (enc b).length = b.length + 4 := by simp [enc, be_length]; omega
theorem strm_append (xs ys : List (List UInt8)) : strm (xs ++ ys) = strm xs ++ strm ys := by simp [strm]
theorem size_append (xs ys : List (List UInt8)) : size (xs ++ ys) = size xs + size ys := by simp [size, strm_append]
theorem strm_cons (b : List UInt8) (ys : List (List UInt8)) : strm (b :: ys) = enc b ++ strm ys := by simp [strm]
theorem size_cons (b : List UInt8) (ys : List (List UInt8)) : size (b :: ys) = b.length + 4 + size ys := by simp [size, strm_cons, enc_length]
theorem size_nil : size [] = 0 := rfl
def recsOk (rs : List (List UInt8)) : Prop := ∀ b ∈ rs, 1 ≤ b.length ∧ b.length ≤ 60000
/-- where the records end that begin at a place -/
def endsOf (a : Nat) : List (List UInt8) → List Nat
  | [] => []
  | b :: rs => (a + b.length + 4) :: endsOf (a + b.length + 4) rs
theorem endsOf_length : ∀ (rs : List (List UInt8)) (a : Nat), (endsOf a rs).length = rs.length
  | [], _ => rfl
  | b :: rs, a => by simp [endsOf, endsOf_length rs]
theorem endsOf_append : ∀ (xs ys : List (List UInt8)) (a : Nat), endsOf a (xs ++ ys) = endsOf a xs ++ endsOf (a + size xs) ys
  | [], _, _ => rfl
  | b :: xs, ys, a => by
    simp only [List.cons_append, endsOf, endsOf_append xs ys, size_cons]
    congr 3
    omega
theorem endsOf_at : ∀ (rs : List (List UInt8)) (a i : Nat), i < rs.length → (endsOf a rs)[i]? = some (a + size (rs.take (i + 1)))
  | [], _, _, h => absurd h (Nat.not_lt_zero _)
  | b :: rs, a, 0, _ => by simp [endsOf, size_cons, size_nil]; omega
  | b :: rs, a, i + 1, h => by
    simp only [endsOf, List.getElem?_cons_succ, List.take_succ_cons, size_cons]
    rw [endsOf_at rs _ i (by simpa using h)]
    congr 1
    omega
theorem size_take_le (rs : List (List UInt8)) (i : Nat) : size (rs.take i) ≤ size rs := by
  have := size_append (rs.take i) (rs.drop i)
  rw [List.take_append_drop] at this
  omega
theorem length_le_size : ∀ (rs : List (List UInt8)), 4 * rs.length ≤ size rs
  | [] => by simp
  | b :: rs => by
    have := length_le_size rs
    rw [size_cons, List.length_cons]
    omega

/-! ### In memory -/
abbrev logRow (bd bs : Nat) (cs : List Value) (base forced end_ : Int) (v : Value) (bad : Bool) : List Value :=
  ptr bd :: ptr bs :: (cs ++ [.int .i64 base, .int .i64 forced, .int .i64 end_, v, .bool bad])
section
variable {bd bs : Nat} {cs : List Value} {base forced end_ : Int} {v x : Value} {bad : Bool} (h : cs.length = 65536)
include h
theorem lr_tail (tl : List Value) (i : Nat) : (ptr bd :: ptr bs :: (cs ++ tl))[65538 + i]? = tl[i]? := by
  rw [show 65538 + i = (65536 + i) + 1 + 1 by omega, List.getElem?_cons_succ, List.getElem?_cons_succ, List.getElem?_append_right (by omega), h, Nat.add_sub_cancel_left]
theorem lr_tailSet (tl : List Value) (i : Nat) (x : Value) : (ptr bd :: ptr bs :: (cs ++ tl)).set (65538 + i) x = ptr bd :: ptr bs :: (cs ++ tl.set i x) := by
  rw [show 65538 + i = (65536 + i) + 1 + 1 by omega, List.set_cons_succ, List.set_cons_succ, List.set_append_right _ _ (by omega), h, Nat.add_sub_cancel_left]
theorem lr_base : (logRow bd bs cs base forced end_ v bad)[65538]? = some (.int .i64 base) := lr_tail h _ 0
theorem lr_forced : (logRow bd bs cs base forced end_ v bad)[65539]? = some (.int .i64 forced) := lr_tail h _ 1
theorem lr_end : (logRow bd bs cs base forced end_ v bad)[65540]? = some (.int .i64 end_) := lr_tail h _ 2
theorem lr_ends : (logRow bd bs cs base forced end_ v bad)[65541]? = some v := lr_tail h _ 3
theorem lr_bad : (logRow bd bs cs base forced end_ v bad)[65542]? = some (.bool bad) := lr_tail h _ 4
theorem lr_setBase (z : Int) : (logRow bd bs cs base forced end_ v bad).set 65538 (.int .i64 z) = logRow bd bs cs z forced end_ v bad := lr_tailSet h _ 0 _
theorem lr_setForced (z : Int) : (logRow bd bs cs base forced end_ v bad).set 65539 (.int .i64 z) = logRow bd bs cs base z end_ v bad := lr_tailSet h _ 1 _
theorem lr_setEnd (z : Int) : (logRow bd bs cs base forced end_ v bad).set 65540 (.int .i64 z) = logRow bd bs cs base forced z v bad := lr_tailSet h _ 2 _
theorem lr_setEnds (u : Value) : (logRow bd bs cs base forced end_ v bad).set 65541 u = logRow bd bs cs base forced end_ u bad := lr_tailSet h _ 3 _
theorem lr_setBad (z : Bool) : (logRow bd bs cs base forced end_ v bad).set 65542 (.bool z) = logRow bd bs cs base forced end_ v z := lr_tailSet h _ 4 _
theorem lr_length : (logRow bd bs cs base forced end_ v bad).length = 65543 := by simp [h]
theorem lr_byte {p : Nat} (hp : p < 65536) : (logRow bd bs cs base forced end_ v bad)[2 + p]? = cs[p]? := by
  show (ptr bd :: ptr bs :: (cs ++ _))[2 + p]? = _
  rw [show 2 + p = p + 1 + 1 by omega, List.getElem?_cons_succ, List.getElem?_cons_succ, List.getElem?_append_left (by omega)]
theorem lr_setByte {p : Nat} (hp : p < 65536) (x : Value) : (logRow bd bs cs base forced end_ v bad).set (2 + p) x = logRow bd bs (cs.set p x) base forced end_ v bad := by
  show (ptr bd :: ptr bs :: (cs ++ _)).set (2 + p) x = _
  rw [show 2 + p = p + 1 + 1 by omega, List.set_cons_succ, List.set_cons_succ, List.set_append_left _ _ (by omega)]
end
structure Lg where
  R : Nat → UInt8
  base : Nat
  forced : Nat
  end_ : Nat
  ends : List Nat
  bad : Bool
def ringV (R : Nat → UInt8) (cs : List Value) : Prop := cs.length = 65536 ∧ ∀ p, p < 65536 → cs[p]? = some (byteV (R p))
def placesV (l : List Nat) : List Value := l.map fun (x : Nat) => Value.int .i64 (x : Int)
def LgIs (bg bs bd : Nat) (g : Lg) (sg : Seg) : Prop :=
  ∃ cs v es, ringV g.R cs ∧ OwnT v g.ends.length (placesV g.ends) 2 es ∧ sg = (bg, .row (logRow bd bs cs g.base g.forced g.end_ v g.bad) 66 65543) :: es
theorem ringV_set {R : Nat → UInt8} {cs : List Value} (h : ringV R cs) (i : Nat) (c : UInt8) : ringV (fun p => if p = i then c else R p) (cs.set i (byteV c)) := by
  refine ⟨by rw [List.length_set]; exact h.1, fun p hp => ?_⟩
  rw [List.getElem?_set]
  by_cases e : i = p
  · subst e
    rw [if_pos rfl, if_pos (by rw [h.1]; exact hp)]
    simp only [if_true]
  · rw [if_neg e]
    simp only [if_neg (fun h : p = i => e h.symm)]
    exact h.2 p hp
end Go.Proofs.Ytjfjmhmfhkdcbab
