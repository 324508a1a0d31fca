/-
  Waits, plainly: who is reached from whom.
-/
import Derived.Test.YtomiidlbfcfpiaaSLW
import Derived.Test.YtomiidlbfcfpiaaSLT
import Derived.Test.YtomiidlbfcfpiaaTy
namespace Go.Proofs.Ytomiidlbfcfpiaa
open Go Go.SL Go.RowKit

/-- reached from those on a list, by any steps -/
inductive Rch (g : Int → List Int) (on : List Int) : Int → Prop
  | base {y : Int} : y ∈ on → Rch g on y
  | step {x y : Int} : Rch g on x → y ∈ g x → Rch g on y
theorem Rch.mono {g : Int → List Int} {on on' : List Int} (h : ∀ y ∈ on, y ∈ on') {y : Int} (hr : Rch g on y) : Rch g on' y := by
  induction hr with
  | base h1 => exact .base (h _ h1)
  | step _ h2 ih => exact .step ih h2
theorem Rch.congr {g g' : Int → List Int} {on on' : List Int} (h : ∀ y, y ∈ on ↔ y ∈ on') (hg : ∀ x y, y ∈ g x ↔ y ∈ g' x) {y : Int} : Rch g on y ↔ Rch g' on' y := by
  constructor
  · intro hr
    induction hr with
    | base h1 => exact .base ((h _).1 h1)
    | step _ h2 ih => exact .step ih ((hg _ _).1 h2)
  · intro hr
    induction hr with
    | base h1 => exact .base ((h _).2 h1)
    | step _ h2 ih => exact .step ih ((hg _ _).2 h2)
theorem Rch.trans {g : Int → List Int} {on : List Int} {x y : Int} (h : Rch g on x) (h2 : Rch g (g x) y) : Rch g on y := by
  induction h2 with
  | base h3 => exact .step h h3
  | step _ h3 ih => exact .step ih h3
theorem Rch.closed {g : Int → List Int} {on sl : List Int} (h1 : ∀ y ∈ on, y ∈ sl) (h2 : ∀ x ∈ sl, ∀ y ∈ g x, y ∈ sl) {y : Int} (h : Rch g on y) : y ∈ sl := by
  induction h with
  | base h3 => exact h1 _ h3
  | step _ h3 ih => exact h2 _ ih _ h3

/-! ### What a transaction waits for, as the map has it -/
/-- key, for whom, stamp, block, room, cells -/
abbrev Went := Int × List Int × Nat × Nat × Nat × Nat
def wv (e : Went) : Value := .slice (some ⟨e.2.2.2.1, 0, none⟩) e.2.1.length e.2.2.2.2.1
def wb (e : Went) : Nat × SObj := (e.2.2.2.1, .row (e.2.1.map (Value.int .i64)) 2 e.2.2.2.2.2)
def wes (en : List Went) : Ent := en.map fun e => (e.1, wv e, e.2.2.1)
def pool (en : List Went) : Seg := en.map wb
def gr : List Went → Int → List Int
  | [], _ => []
  | e :: en, k => if e.1 = k then e.2.1 else gr en k
theorem wes_keys (en : List Went) : (wes en).map (·.1) = en.map (·.1) := by simp [wes]
theorem wes_born (en : List Went) : (wes en).map (·.2.2) = en.map (·.2.2.1) := by simp [wes]
structure Wok (en : List Went) (ck : Nat) : Prop where
  keys : (en.map (·.1)).Nodup
  born : (en.map (·.2.2.1)).Nodup
  old : ∀ e ∈ en, e.2.2.1 < ck
  some_ : ∀ e ∈ en, e.2.1 ≠ [] ∧ e.2.1.length ≤ e.2.2.2.2.1 ∧ e.2.2.2.2.1 ≤ e.2.2.2.2.2
theorem gr_mem {en : List Went} (hk : (en.map (·.1)).Nodup) {e : Went} (he : e ∈ en) : gr en e.1 = e.2.1 := by
  induction en with
  | nil => cases he
  | cons x xs ih =>
    have hn : x.1 ∉ xs.map (·.1) ∧ (xs.map (·.1)).Nodup := List.nodup_cons.1 hk
    unfold gr
    rcases List.mem_cons.1 he with rfl | he
    · rw [if_pos rfl]
    · rw [if_neg (fun h => hn.1 (by rw [h]; exact List.mem_map_of_mem he)), ih hn.2 he]
theorem gr_none {en : List Went} {k : Int} (h : ∀ e ∈ en, e.1 ≠ k) : gr en k = [] := by
  induction en with
  | nil => rfl
  | cons x xs ih =>
    unfold gr
    rw [if_neg (h x (by simp)), ih fun e he => h e (by simp [he])]
theorem gr_some {en : List Went} {k : Int} (h : gr en k ≠ []) : ∃ e ∈ en, e.1 = k := by
  induction en with
  | nil => exact absurd rfl h
  | cons x xs ih =>
    unfold gr at h
    split at h
    · rename_i e; exact ⟨x, by simp, e⟩
    · obtain ⟨e, he, hk⟩ := ih h; exact ⟨e, by simp [he], hk⟩
theorem gr_cons (e : Went) (en : List Went) (k : Int) : gr (e :: en) k = if e.1 = k then e.2.1 else gr en k := rfl
/-- what is still to be looked at -/
def todoW (sl : List Int) : List Went → Nat
  | [] => 0
  | e :: en => (if e.1 ∈ sl then 0 else e.2.1.length) + todoW sl en
theorem todoW_cons (sl : List Int) (e : Went) (en : List Went) : todoW sl (e :: en) = (if e.1 ∈ sl then 0 else e.2.1.length) + todoW sl en := rfl
theorem todoW_not {sl : List Int} {x : Int} : ∀ {en : List Went}, (∀ e ∈ en, e.1 ≠ x) → todoW (x :: sl) en = todoW sl en
  | [], _ => rfl
  | e :: en, h => by
    unfold todoW
    rw [todoW_not fun y hy => h y (by simp [hy])]
    have h1 := h e (by simp)
    by_cases h2 : e.1 ∈ sl
    · rw [if_pos h2, if_pos (by simp [h2])]
    · rw [if_neg h2, if_neg (by simp [h1, h2])]
theorem todoW_step {sl : List Int} {x : Int} (hx : x ∉ sl) : ∀ {en : List Went}, (en.map (·.1)).Nodup → todoW (x :: sl) en + (gr en x).length = todoW sl en
  | [], _ => rfl
  | e :: en, hn => by
    have hn' : e.1 ∉ en.map (·.1) ∧ (en.map (·.1)).Nodup := List.nodup_cons.1 hn
    rw [todoW_cons, todoW_cons, gr_cons]
    by_cases h : e.1 = x
    · have hno : ∀ y ∈ en, y.1 ≠ x := fun y hy h2 => hn'.1 (by rw [h, ← h2]; exact List.mem_map_of_mem hy)
      rw [if_pos (by simp [h]), if_pos h, if_neg (by rw [h]; exact hx), todoW_not hno]
      omega
    · have ih := todoW_step (sl := sl) hx hn'.2
      rw [if_neg h]
      by_cases h2 : e.1 ∈ sl
      · rw [if_pos h2, if_pos (by simp [h2])]; omega
      · rw [if_neg h2, if_neg (by simp [h, h2])]; omega
theorem mget_wes {en : List Went} (hk : (en.map (·.1)).Nodup) (k : Int) : (gr en k = [] ∧ (∀ e ∈ en, e.1 ≠ k) ∧ mget (wes en) k = none) ∨ ∃ e ∈ en, e.1 = k ∧ gr en k = e.2.1 ∧ mget (wes en) k = some (wv e) := by
  by_cases h : ∃ e ∈ en, e.1 = k
  · obtain ⟨e, he, rfl⟩ := h
    refine .inr ⟨e, he, rfl, gr_mem hk he, ?_⟩
    exact mget_mem (es := wes en) (by rw [wes_keys]; exact hk) (e := (e.1, wv e, e.2.2.1)) (List.mem_map.2 ⟨e, he, rfl⟩)
  · have h' : ∀ e ∈ en, e.1 ≠ k := fun e he hk => h ⟨e, he, hk⟩
    exact .inl ⟨gr_none h', h', mget_not fun x hx => by obtain ⟨e, he, rfl⟩ := List.mem_map.1 hx; exact h' e he⟩
/-- a block of the pool -/
theorem at_pool {en : List Went} {e : Went} (he : e ∈ en) (L : List Seg) : ∃ u, At (pool en :: L) e.2.2.2.1 (.row (e.2.1.map (Value.int .i64)) 2 e.2.2.2.2.2) u := by
  obtain ⟨s, t, rfl⟩ := List.append_of_mem he
  unfold pool
  rw [List.map_append, List.map_cons]
  exact ⟨_, At.mid⟩
end Go.Proofs.Ytomiidlbfcfpiaa
