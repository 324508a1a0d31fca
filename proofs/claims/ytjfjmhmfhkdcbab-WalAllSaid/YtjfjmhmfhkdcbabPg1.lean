/-
  Pages, plainly: what a page that is written leaves; a device with a fuse. And the set's 'Of' walked.
-/
import Derived.Test.YtjfjmhmfhkdcbabPg0
namespace Go.Proofs.Ytjfjmhmfhkdcbab
open Go Go.SL Go.RowKit

def Dv.live (d : Dv) : Prop := d.lit = false ∧ d.dead = false
theorem Dv.live.notDead {d : Dv} (h : d.live) : d.isDead = false := by simp [Dv.isDead, h.1, h.2]
theorem live_put {d : Dv} (h : d.live) (i : Nat) (b : List UInt8) : (d.put i b).live := h
theorem newDv_live (n : Nat) : (newDv n).live := ⟨rfl, rfl⟩
theorem wr_live {d : Dv} (h : d.live) {i : Nat} (hi : i < d.l.length) {b : List UInt8} (hb : b.length ≤ 64) : wr d (i : Int) b = (d.put i b, 0) := by
  unfold wr
  rw [if_neg (by rw [h.notDead]; simp), if_neg (by omega), if_neg (by omega)]
  simp
theorem part_length {b : List UInt8} (h : b.length = 256) {k : Nat} (hk : k < 4) : (part b k).length = 64 := by simp [part, h]; omega
/-- the sectors behind the last k of a page's four writes -/
def lay (p : Nat) (b : List UInt8) : Nat → List Sec → List Sec
  | 0, l => l
  | k + 1, l => lay p b k (l.modify (p + (3 - k)) (·.put (part b (3 - k))))
theorem lay_length (p : Nat) (b : List UInt8) : ∀ (k : Nat) (l : List Sec), (lay p b k l).length = l.length
  | 0, _ => rfl
  | k + 1, l => by rw [lay, lay_length p b k, List.length_modify]
theorem lay_at (p : Nat) (b : List UInt8) (j : Nat) : ∀ (k : Nat) (_ : k ≤ 4) (l : List Sec), (lay p b k l)[j]? = l[j]?.map (fun s => if p + (4 - k) ≤ j ∧ j < p + 4 then s.put (part b (j - p)) else s)
  | 0, _, l => by
    simp only [lay]
    cases l[j]? with
    | none => rfl
    | some s => rw [Option.map_some, if_neg (by omega)]
  | k + 1, hk, l => by
    rw [lay, lay_at p b j k (by omega), List.getElem?_modify]
    cases hl : l[j]? with
    | none => simp
    | some s =>
      simp only [Option.map_eq_map, Option.map_some]
      by_cases h1 : p + (3 - k) = j
      · subst h1
        rw [if_pos rfl, if_neg (by omega), if_pos (by omega), show p + (3 - k) - p = 3 - k by omega]
      · rw [if_neg h1]
        by_cases h2 : p + (4 - k) ≤ j ∧ j < p + 4
        · rw [if_pos h2, if_pos (by omega)]
        · rw [if_neg h2, if_neg (by omega)]
theorem lay_ok {p : Nat} {b : List UInt8} (hb : b.length = 256) : ∀ (k : Nat) (_ : k ≤ 4) (l : List Sec), (∀ s ∈ l, s.ok) → ∀ s ∈ lay p b k l, s.ok
  | 0, _, l, h => h
  | k + 1, hk, l, h => lay_ok hb k (by omega) _ (ok_modify h (fun s hs => Sec.put_ok hs (by rw [part_length hb (by omega)]; exact Nat.le_refl _)) _)
def incs : Nat → Int → Int
  | 0, z => z
  | k + 1, z => incs k (inc z)
theorem pageW_live {n : Nat} (hn : n < 96) {b : List UInt8} (hb : b.length = 256) : ∀ (k : Nat) (_ : k ≤ 4) (d : Dv), d.live → 386 ≤ d.l.length → pageW (n : Int) b k d = ({ d with l := lay (2 + 4 * n) b k d.l, calls := incs k d.calls }, 0)
  | 0, _, d, _, _ => rfl
  | k + 1, hk, d, h, hl => by
    have e : (2 + 4 * (n : Int) + (3 - k : Nat)) = ((2 + 4 * n + (3 - k) : Nat) : Int) := by omega
    unfold pageW
    rw [e, wr_live h (by omega) (by rw [part_length hb (by omega)]; exact Nat.le_refl _)]
    rw [if_pos rfl]
    simp only
    rw [pageW_live hn hb k (by omega) _ (live_put h _ _) (by simpa [Dv.put] using hl)]
    obtain ⟨h1, h2⟩ := h
    simp [Dv.put, Dv.burn, lay, incs, h1]
theorem over_full {b s : List UInt8} (h : s.length ≤ b.length) : over b s = b := by
  unfold over
  rw [List.drop_of_length_le h]
  simp
/-- a page's sectors behind it -/
theorem lay_now {l : List Sec} (h : ∀ s ∈ l, s.ok) {p : Nat} {b : List UInt8} (hb : b.length = 256) {q : Nat} (hq : q < 4) (hp : p + 4 ≤ l.length) (hj : p + q < (lay p b 4 l).length) : (lay p b 4 l)[p + q].now = part b q := by
  have h1 := lay_at p b (p + q) 4 (by omega) l
  have hl : p + q < l.length := by omega
  rw [List.getElem?_eq_getElem hj, List.getElem?_eq_getElem hl, Option.map_some, if_pos (by omega), show p + q - p = q by omega] at h1
  rw [Option.some.inj h1]
  show over (part b q) l[p + q].now = _
  exact over_full (by rw [part_length hb hq, (h _ (List.getElem_mem hl)).1]; exact Nat.le_refl _)
theorem parts_all {b : List UInt8} (hb : b.length = 256) : part b 0 ++ part b 1 ++ part b 2 ++ part b 3 = b := by
  have step : ∀ q, b.take (64 * q) ++ part b q = b.take (64 * (q + 1)) := fun q => by
    rw [part, show 64 * (q + 1) = 64 * q + 64 by omega, List.take_add]
  have h0 := step 0
  have h1 := step 1
  have h2 := step 2
  have h3 := step 3
  simp only [Nat.mul_zero, List.take_zero, List.nil_append] at h0
  rw [h0, show 64 * (0 + 1) = 64 * 1 by rfl, h1, show 64 * (1 + 1) = 64 * 2 by rfl, h2, show 64 * (2 + 1) = 64 * 3 by rfl, h3]
  exact List.take_of_length_le (by omega)
theorem page_of_lay {l : List Sec} (h : ∀ s ∈ l, s.ok) {n : Nat} {b : List UInt8} (hb : b.length = 256) (hl : 2 + 4 * n + 4 ≤ l.length) : pagePart (lay (2 + 4 * n) b 4 l) n 4 = b := by
  have hlen := lay_length (2 + 4 * n) b 4 l
  rw [pagePart_succ (by omega), pagePart_succ (by omega), pagePart_succ (by omega), pagePart_succ (by omega)]
  rw [lay_now h hb (by omega) hl, lay_now h hb (by omega) hl, lay_now h hb (by omega) hl, lay_now h hb (by omega) hl]
  simp only [pagePart, List.take_zero, List.flatMap_nil, List.nil_append]
  exact parts_all hb
theorem page_of_other {l : List Sec} {n n' : Nat} (hne : n ≠ n') {b : List UInt8} : pagePart (lay (2 + 4 * n) b 4 l) n' 4 = pagePart l n' 4 := by
  unfold pagePart
  congr 1
  apply List.ext_getElem?
  intro j
  rw [List.getElem?_take, List.getElem?_take]
  split
  · rw [List.getElem?_drop, List.getElem?_drop, lay_at _ _ _ 4 (by omega)]
    cases l[2 + 4 * n' + j]? with
    | none => rfl
    | some s => rw [Option.map_some, if_neg (by omega)]
  · rfl
/-! ### With a fuse -/
theorem incs_add (a : Nat) : ∀ z, incs (a + 1) z = incs a (inc z) := fun _ => rfl
theorem pageW_fuse {n : Nat} (hn : n < 96) {b : List UInt8} (hb : b.length = 256) : ∀ (k : Nat) (_ : k ≤ 4) (d : Dv) (f : Nat), d.lit = true → d.fuse = (f : Int) → (0 < f → d.dead = false) → 386 ≤ d.l.length →
    (pageW (n : Int) b k d).2 = (if k ≤ f then 0 else 5) ∧ (pageW (n : Int) b k d).1.calls = incs (min k f) d.calls
  | 0, _, d, f, _, _, _, _ => by simp [pageW, incs]
  | k + 1, hk, d, f, h1, h2, h3, hl => by
    have e : (2 + 4 * (n : Int) + (3 - k : Nat)) = ((2 + 4 * n + (3 - k) : Nat) : Int) := by omega
    by_cases hf : f = 0
    · subst hf
      have hd : d.isDead = true := by simp [Dv.isDead, h1, h2]
      have hw : wr d (2 + 4 * (n : Int) + (3 - k : Nat)) (part b (3 - k)) = (d, 5) := by unfold wr; rw [if_pos hd]
      unfold pageW
      rw [hw, if_neg (by show ¬ (5 : Int) = 0; decide)]
      simp [incs]
    · have hd : d.isDead = false := by
        simp only [Dv.isDead, h3 (by omega), h1, h2, Bool.true_and, Bool.false_or, decide_eq_false_iff_not]
        omega
      have hw : wr d (2 + 4 * (n : Int) + (3 - k : Nat)) (part b (3 - k)) = (d.put (2 + 4 * n + (3 - k)) (part b (3 - k)), 0) := by
        unfold wr
        rw [e, if_neg (by rw [hd]; simp), if_neg (by omega), if_neg (by rw [part_length hb (by omega)]; omega)]
        rfl
      unfold pageW
      rw [hw, if_pos rfl]
      simp only
      have ih := pageW_fuse hn hb k (by omega) (d.put (2 + 4 * n + (3 - k)) (part b (3 - k))) (f - 1) h1 (by simp only [Dv.put, Dv.burn, h1, if_true, h2]; omega) (fun _ => h3 (by omega)) (by simpa [Dv.put] using hl)
      rw [ih.1, ih.2]
      refine ⟨?_, ?_⟩
      · by_cases hkf : k ≤ f - 1
        · rw [if_pos hkf, if_pos (by omega)]
        · rw [if_neg hkf, if_neg (by omega)]
      · rw [show min (k + 1) f = min k (f - 1) + 1 by omega, incs_add]
        rfl
theorem incs_zero {k : Nat} (h : k ≤ 4) : incs k 0 = (k : Int) := by
  match k, h with
  | 0, _ => rfl
  | 1, _ => decide
  | 2, _ => decide
  | 3, _ => decide
  | 4, _ => decide

/-! ### A page of some bytes -/
def ofB (b : List UInt8) : List UInt8 := over (b.take 256) (List.replicate 256 0)
theorem ofB_length (b : List UInt8) : (ofB b).length = 256 := by unfold ofB; rw [over_length (by simp only [List.length_take, List.length_replicate]; omega), List.length_replicate]
end Go.Proofs.Ytjfjmhmfhkdcbab
