/-
  Rules for walking Go code over a heap told block by block. No program in sight.
-/
import Derived.WalkKit
import Derived.Defers
import Derived.OrdersHeld
import Derived.Recover
import Derived.Orders
import Derived.Deep.Slices
/-
  Rules for walking Go code over a heap that is told block by block: the state of one activation is a function from slots to values, the heap a list of segments of blocks. No program in sight.
-/
namespace Go.SL
open Go Go.RowKit

/-! ### Slots -/
def upd (F : Nat → Value) (d : Nat) (v : Value) : Nat → Value := fun t => bif Nat.beq t d then v else F t
def ev (F : Nat → Value) : Operand → Value
  | .tmp t => F t
  | .const v => v
  | .global g => .pointer (some ⟨g, 0, none⟩)
  | .func f => .func (.func f) #[] #[]
def argF : List Value → Nat → Value
  | [], _ => undef
  | v :: _, 0 => v
  | _ :: vs, t + 1 => argF vs t

theorem upd_same (F : Nat → Value) (d : Nat) (v : Value) : upd F d v d = v := by
  simp [upd]
theorem upd_ne (F : Nat → Value) {d t : Nat} (v : Value) (h : t ≠ d) : upd F d v t = F t := by
  have : Nat.beq t d = false := by
    cases hb : Nat.beq t d with
    | false => rfl
    | true => exact absurd (Nat.eq_of_beq_eq_true hb) h
  simp [upd, this]
theorem upd_eq {F : Nat → Value} {d : Nat} {v : Value} (h : F d = v) : upd F d v = F := by
  funext t
  by_cases ht : t = d
  · subst ht; rw [upd_same, h]
  · rw [upd_ne _ _ ht]

structure Sl (n : Nat) (a : Act) (F : Nat → Value) : Prop where
  size : a.tmps.size = n
  at_ : ∀ t, a.tmps.getD t undef = F t

theorem Sl.eval {n : Nat} {a : Act} {F : Nat → Value} (h : Sl n a F) (x : Operand) : a.eval x = ev F x := by
  cases x with
  | tmp t => exact h.at_ t
  | const v => rfl
  | global g => rfl
  | func f => rfl
theorem Sl.eval_fun {n : Nat} {a : Act} {F : Nat → Value} (h : Sl n a F) : a.eval = ev F := funext h.eval
theorem Sl.put {n : Nat} {a : Act} {F : Nat → Value} (h : Sl n a F) {dst : Option Nat} {d : Nat} (hd : dst = some d) (hn : Nat.blt d n = true) (v : Value) : Sl n (a.put dst v) (upd F d v) := by
  subst hd
  have hlt : d < n := Nat.le_of_ble_eq_true hn
  refine ⟨by simp [Act.put, h.size], fun t => ?_⟩
  have ht := h.at_ t
  have hs := h.size
  simp only [Act.put]
  by_cases e : t = d
  · subst e
    rw [upd_same]
    have hlt' : t < a.tmps.size := by omega
    simp [Array.getD, hlt']
  · rw [upd_ne _ _ e, ← ht]
    simp only [Array.getD_eq_getD_getElem?]
    rw [Array.getElem?_setIfInBounds_ne (by omega)]
theorem put_defers (a : Act) (dst : Option Nat) (v : Value) : (a.put dst v).defers = a.defers := by cases dst <;> rfl

/-! ### Blocks -/
inductive SObj where
  /-- a block of k cells, of which the first are these -/
  | row (cs : List Value) (t : TypeId) (k : Nat)
  | obj (o : Obj)

def Holds (w : World) (b : Nat) : SObj → Prop
  | .row cs t k => ∃ (rest : List Value) (fr : Nat × Nat), w.heap[b]? = some (.cells (cs ++ rest).toArray t fr) ∧ (cs ++ rest).length = k ∧ (fr = (0, 0) ∨ (k ≤ fr.1 ∧ t < 6))
  | .obj o => w.heap[b]? = some o

abbrev Seg := List (Nat × SObj)

structure Mem (W0 w : World) (L : List Seg) : Prop where
  below : Below W0.heap.size W0 w
  nodup : (L.flatten.map (·.1)).Nodup
  holds : ∀ p ∈ L.flatten, W0.heap.size ≤ p.1 ∧ Holds w p.1 p.2

theorem Mem.start (W0 : World) : Mem W0 W0 [] := ⟨Below.refl _ _, by simp, by simp⟩
theorem Holds.block {w w' : World} {b : Nat} (h : w'.heap[b]? = w.heap[b]?) : ∀ {o : SObj}, Holds w b o → Holds w' b o
  | .row _ _ _, ⟨rest, fr, h1, h2, h3⟩ => ⟨rest, fr, h.trans h1, h2, h3⟩
  | .obj _, h1 => h.trans h1
theorem Holds.lt {w : World} {b : Nat} : ∀ {o : SObj}, Holds w b o → b < w.heap.size
  | .row _ _ _, ⟨rest, fr, h1, _, _⟩ => by
    rcases Nat.lt_or_ge b w.heap.size with h | h
    · exact h
    · rw [Array.getElem?_eq_none h] at h1; cases h1
  | .obj _, h1 => by
    rcases Nat.lt_or_ge b w.heap.size with h | h
    · exact h
    · have h1 : w.heap[b]? = _ := h1
      rw [Array.getElem?_eq_none h] at h1; cases h1

/-- where a block stands in the heap's list, and the list with another one in its place -/
def At (L : List Seg) (b : Nat) (o : SObj) (u : Nat → SObj → List Seg) : Prop :=
  ∃ pre post, L.flatten = pre ++ (b, o) :: post ∧ ∀ b' o', (u b' o').flatten = pre ++ (b', o') :: post
theorem At.here {b : Nat} {o : SObj} {s : Seg} {L : List Seg} : At (((b, o) :: s) :: L) b o (fun b' o' => ((b', o') :: s) :: L) :=
  ⟨[], s ++ L.flatten, by simp, fun _ _ => by simp⟩
theorem At.next {b : Nat} {o : SObj} {s : Seg} {L : List Seg} {u : Nat → SObj → List Seg} (h : At L b o u) : At (s :: L) b o (fun b' o' => s :: u b' o') := by
  obtain ⟨pre, post, h1, h2⟩ := h
  exact ⟨s ++ pre, post, by simp [h1], fun b' o' => by simp [h2]⟩
theorem At.in1 {b : Nat} {o : SObj} {x : Nat × SObj} {s : Seg} {L : List Seg} : At ((x :: (b, o) :: s) :: L) b o (fun b' o' => (x :: (b', o') :: s) :: L) :=
  ⟨[x], s ++ L.flatten, by simp, fun _ _ => by simp⟩
theorem At.in2 {b : Nat} {o : SObj} {x y : Nat × SObj} {s : Seg} {L : List Seg} : At ((x :: y :: (b, o) :: s) :: L) b o (fun b' o' => (x :: y :: (b', o') :: s) :: L) :=
  ⟨[x, y], s ++ L.flatten, by simp, fun _ _ => by simp⟩
/-- a block in the midst of a segment that is a list of blocks -/
theorem At.mid {b : Nat} {o : SObj} {s1 s2 : Seg} {L : List Seg} : At ((s1 ++ (b, o) :: s2) :: L) b o (fun b' o' => (s1 ++ (b', o') :: s2) :: L) :=
  ⟨s1, s2 ++ L.flatten, by simp, fun _ _ => by simp⟩

section mem
variable {W0 w : World} {L : List Seg} {b : Nat} {o : SObj} {u : Nat → SObj → List Seg}
theorem Mem.get (h : Mem W0 w L) (ha : At L b o u) : W0.heap.size ≤ b ∧ Holds w b o := by
  obtain ⟨pre, post, h1, _⟩ := ha
  exact h.holds (b, o) (by rw [h1]; simp)
theorem Mem.of_flat {L' : List Seg} (h : Mem W0 w L) (hp : L.flatten.Perm L'.flatten) : Mem W0 w L' :=
  ⟨h.below, (hp.map _).nodup_iff.1 h.nodup, fun p hm => h.holds p (hp.mem_iff.2 hm)⟩
theorem Mem.alloc (h : Mem W0 w L) (x : Obj) {o : SObj} (ho : Holds (w.alloc x) w.heap.size o) : Mem W0 (w.alloc x) ([(w.heap.size, o)] :: L) := by
  refine ⟨h.below.alloc h.below.size x, ?_, ?_⟩
  · simp only [List.flatten_cons, List.singleton_append, List.map_cons, List.nodup_cons]
    refine ⟨fun hm => ?_, h.nodup⟩
    obtain ⟨p, hp, e⟩ := List.mem_map.1 hm
    have := (h.holds p hp).2.lt
    omega
  · intro p hp
    simp only [List.flatten_cons, List.singleton_append, List.mem_cons] at hp
    rcases hp with rfl | hp
    · exact ⟨h.below.size, ho⟩
    · obtain ⟨h1, h2⟩ := h.holds p hp
      exact ⟨h1, h2.block (Below.heap_alloc w x p.1 h2.lt)⟩
/-- one block changed into another world's -/
theorem Mem.change (h : Mem W0 w L) (ha : At L b o u) {w' : World} (hb : Below W0.heap.size W0 w') (hsame : ∀ i, i < w.heap.size → i ≠ b → w'.heap[i]? = w.heap[i]?)
    {b' : Nat} {o' : SObj} (hb' : b' = b ∨ w.heap.size ≤ b') (ho : Holds w' b' o') : Mem W0 w' (u b' o') := by
  obtain ⟨pre, post, h1, h2⟩ := ha
  have hn := h.nodup
  have hh := h.holds
  have hsz := h.below.size
  rw [h1] at hn hh
  simp only [List.map_append, List.map_cons] at hn
  have hb0 : W0.heap.size ≤ b := (hh (b, o) (by simp)).1
  have ne : ∀ p ∈ pre ++ post, p.1 ≠ b := by
    intro p hp e
    rw [List.nodup_append] at hn
    obtain ⟨_, n2, n3⟩ := hn
    rw [List.nodup_cons] at n2
    rcases List.mem_append.1 hp with hp | hp
    · exact n3 p.1 (List.mem_map_of_mem hp) b (by simp) e
    · exact n2.1 (e ▸ List.mem_map_of_mem hp)
  have hold : ∀ p ∈ pre ++ post, W0.heap.size ≤ p.1 ∧ Holds w' p.1 p.2 := by
    intro p hp
    have hp' : p ∈ pre ++ (b, o) :: post := by
      rcases List.mem_append.1 hp with hp | hp <;> simp [hp]
    obtain ⟨h3, h4⟩ := hh p hp'
    exact ⟨h3, h4.block (hsame p.1 h4.lt (ne p hp))⟩
  refine ⟨hb, ?_, ?_⟩
  · rw [h2]
    simp only [List.map_append, List.map_cons]
    rcases hb' with rfl | hb'
    · exact hn
    · have hn' : ((pre ++ post).map (·.1)).Nodup := by
        rw [List.map_append]
        exact (List.Sublist.append (List.Sublist.refl _) (List.sublist_cons_self _ _)).nodup hn
      have hlt : ∀ p ∈ pre ++ post, p.1 < w.heap.size := fun p hp => by
        have hp' : p ∈ pre ++ (b, o) :: post := by
          rcases List.mem_append.1 hp with hp | hp <;> simp [hp]
        exact (hh p hp').2.lt
      rw [List.map_append, List.nodup_append] at hn'
      rw [List.nodup_append, List.nodup_cons]
      refine ⟨hn'.1, ⟨fun hm => ?_, hn'.2.1⟩, ?_⟩
      · obtain ⟨p, hp, e⟩ := List.mem_map.1 hm
        have := hlt p (by simp [hp])
        omega
      · intro x hx y hy
        rcases List.mem_cons.1 hy with rfl | hy
        · obtain ⟨p, hp, e⟩ := List.mem_map.1 hx
          have := hlt p (by simp [hp])
          omega
        · exact hn'.2.2 x hx y hy
  · intro p hp
    rw [h2] at hp
    rcases List.mem_append.1 hp with hp | hp
    · exact hold p (by simp [hp])
    · rcases List.mem_cons.1 hp with rfl | hp
      · exact ⟨by rcases hb' with rfl | hb' <;> simp only <;> omega, ho⟩
      · exact hold p (by simp [hp])
theorem Mem.drew (h : Mem W0 w L) : Mem W0 w.drew L := ⟨h.below.drew, h.nodup, fun p hp => ⟨(h.holds p hp).1, (h.holds p hp).2.block rfl⟩⟩

theorem Holds.cell {cs : List Value} {t : TypeId} {k i : Nat} (h : Holds w b (.row cs t k)) {v : Value} (hv : cs[i]? = some v) : w.cell? ⟨b, i, none⟩ = some v := by
  obtain ⟨rest, fr, h1, _, _⟩ := h
  simp only [World.cell?, h1]
  have hi : i < cs.length := by
    rcases Nat.lt_or_ge i cs.length with h | h
    · exact h
    · rw [List.getElem?_eq_none h] at hv; cases hv
  simp [List.getElem?_append_left hi, hv]
theorem Holds.unfrozen {cs : List Value} {t : TypeId} {k i : Nat} (h : Holds w b (.row cs t k)) (hi : i < k) : w.frozen? ⟨b, i, none⟩ = false := by
  obtain ⟨rest, fr, h1, _, h3⟩ := h
  simp only [World.frozen?, h1]
  rcases h3 with rfl | ⟨h3, _⟩
  · simp
  · simp; omega
theorem Holds.set {cs : List Value} {t : TypeId} {k i : Nat} (h : Holds w b (.row cs t k)) (hi : i < cs.length) (v : Value) : Holds (w.setCell ⟨b, i, none⟩ v) b (.row (cs.set i v) t k) := by
  obtain ⟨rest, fr, h1, h2, h3⟩ := h
  refine ⟨rest, fr, ?_, by simpa using h2, h3⟩
  simp only [World.setCell, Array.getElem?_modify, h1]
  simp [List.set_append_left _ _ hi]
theorem Mem.set {cs : List Value} {t : TypeId} {k i : Nat} (h : Mem W0 w L) (ha : At L b (.row cs t k) u) (hi : i < cs.length) (v : Value) :
    Mem W0 (w.setCell ⟨b, i, none⟩ v) (u b (.row (cs.set i v) t k)) := by
  obtain ⟨h0, h1⟩ := h.get ha
  exact h.change ha (h.below.setCell (by simpa using h0) v) (fun j _ hj => Below.heap_setCell w _ v j (by simpa using hj)) (.inl rfl) (h1.set hi v)
/-- a cell that was there at the start reads as it did -/
theorem Mem.old (h : Mem W0 w L) {a : Addr} (ha : a.block < W0.heap.size) : w.cell? a = W0.cell? a := h.below.cell ha
theorem Mem.old_lt (_h : Mem W0 w L) {a : Addr} {v : Value} (ha : W0.cell? a = some v) : w.cell? a = some v := by
  rw [_h.old (World.block_lt_of_cell? _ _ ha), ha]
end mem

/-! ### Posts and judgements -/
abbrev SPost := Exit → (Nat → Value) → List Deferred → List Seg → Prop
def lift (W0 : World) (n : Nat) (SQ : SPost) : Exit → Act → World → Prop :=
  fun e a w => ∃ F L, Sl n a F ∧ Mem W0 w L ∧ SQ e F a.defers L

def C (P : Program) (W0 : World) (n : Nat) (SQ : SPost) (c : Code) (F : Nat → Value) (D : List Deferred) (L : List Seg) : Prop :=
  ∀ a w, Sl n a F → a.defers = D → Mem W0 w L → c.wp P (lift W0 n SQ) a w
def G (P : Program) (W0 : World) (n : Nat) (SQ : SPost) (ops : Array Oper) (rest : List Oper) (F : Nat → Value) (D : List Deferred) (L : List Seg) : Prop :=
  ∀ a w, Sl n a F → a.defers = D → Mem W0 w L → wpList P ops (lift W0 n SQ) rest a w
def FnS (P : Program) (W0 : World) (f : FuncId) (args : Array Value) (L : List Seg) (R : Ending → List Seg → Prop) : Prop :=
  ∀ w, Mem W0 w L → Calls P f args w fun e w' => ∃ L', Mem W0 w' L' ∧ R e L'

def SPost.seq (K : (Nat → Value) → List Deferred → List Seg → Prop) (SQ : SPost) : SPost
  | .normal, F, D, L => K F D L
  | e, F, D, L => SQ e F D L
def SPost.inBlock (id : Nat) (SQ : SPost) : SPost
  | .exit id', F, D, L => bif Nat.beq id' id then SQ .normal F D L else SQ (.exit id') F D L
  | e, F, D, L => SQ e F D L

section rules
variable {P : Program} {W0 : World} {n : Nat} {SQ : SPost} {F : Nat → Value} {D : List Deferred} {L : List Seg}

theorem C.mono {SQ' : SPost} {c : Code} (h : C P W0 n SQ c F D L) (hq : ∀ e F D L, SQ e F D L → SQ' e F D L) : C P W0 n SQ' c F D L :=
  fun a w hs hd hm => Code.wp_mono (fun e _ _ ⟨F, L, h1, h2, h3⟩ => ⟨F, L, h1, h2, hq e _ _ _ h3⟩) (h a w hs hd hm)
theorem C.fix {c : Code} {d : Nat} {v : Value} (h : F d = v) (k : C P W0 n SQ c (upd F d v) D L) : C P W0 n SQ c F D L := by
  rwa [upd_eq h] at k
theorem C.skip (h : SQ .normal F D L) : C P W0 n SQ .skip F D L := fun _ _ hs hd hm => wp_skip ⟨F, L, hs, hm, hd ▸ h⟩
theorem C.label {l : Nat} (h : SQ .normal F D L) : C P W0 n SQ (.label l) F D L := fun _ _ hs hd hm => wp_label ⟨F, L, hs, hm, hd ▸ h⟩
theorem C.exit {id : Nat} (h : SQ (.exit id) F D L) : C P W0 n SQ (.exit id) F D L := fun _ _ hs hd hm => wp_exit ⟨F, L, hs, hm, hd ▸ h⟩
theorem C.ret (h : SQ .ret F D L) : C P W0 n SQ .ret F D L := fun _ _ hs hd hm => wp_ret ⟨F, L, hs, hm, hd ▸ h⟩
theorem C.seq {x y : Code} (h : C P W0 n (SPost.seq (fun F D L => C P W0 n SQ y F D L) SQ) x F D L) : C P W0 n SQ (.seq x y) F D L := by
  intro a w hs hd hm
  refine wp_seq (Code.wp_mono ?_ (h a w hs hd hm))
  rintro e a' w' ⟨F', L', h1, h2, h3⟩
  cases e with
  | normal => exact h3 a' w' h1 rfl h2
  | exit id => exact ⟨F', L', h1, h2, h3⟩
  | goto l => exact ⟨F', L', h1, h2, h3⟩
  | ret => exact ⟨F', L', h1, h2, h3⟩
  | panic ch => exact ⟨F', L', h1, h2, h3⟩
  | outgrown => exact ⟨F', L', h1, h2, h3⟩
/-- a statement in the midst: what holds between the two -/
theorem C.cut {x y : Code} (I : (Nat → Value) → List Deferred → List Seg → Prop) (h : C P W0 n (SPost.seq I SQ) x F D L) (k : ∀ F D L, I F D L → C P W0 n SQ y F D L) : C P W0 n SQ (.seq x y) F D L :=
  C.seq (h.mono fun e F D L hq => by cases e <;> first | exact k F D L hq | exact hq)
theorem C.block {id : Nat} {c : Code} (h : C P W0 n (SQ.inBlock id) c F D L) : C P W0 n SQ (.block id c) F D L := by
  intro a w hs hd hm
  refine wp_block (Code.wp_mono ?_ (h a w hs hd hm))
  rintro e a' w' ⟨F', L', h1, h2, h3⟩
  cases e with
  | exit id' =>
    simp only [SPost.inBlock] at h3
    simp only [Exit.inBlock]
    split
    · rename_i he; subst he; simp at h3; exact ⟨F', L', h1, h2, h3⟩
    · rename_i he
      have hb : Nat.beq id' id = false := by
        cases hb : Nat.beq id' id with
        | false => rfl
        | true => exact absurd (Nat.eq_of_beq_eq_true hb) he
      rw [hb] at h3; exact ⟨F', L', h1, h2, h3⟩
  | normal => exact ⟨F', L', h1, h2, h3⟩
  | goto l => exact ⟨F', L', h1, h2, h3⟩
  | ret => exact ⟨F', L', h1, h2, h3⟩
  | panic ch => exact ⟨F', L', h1, h2, h3⟩
  | outgrown => exact ⟨F', L', h1, h2, h3⟩
theorem C.condB {c : Operand} {x y : Code} (b : Bool) (hc : ev F c = .bool b) (ht : b = true → C P W0 n SQ x F D L) (hf : b = false → C P W0 n SQ y F D L) : C P W0 n SQ (.cond c x y) F D L := by
  intro a w hs hd hm
  refine wp_cond (t := b) (by rw [hs.eval]; exact hc) ?_
  cases b with
  | true => exact ht rfl a w hs hd hm
  | false => exact hf rfl a w hs hd hm
theorem C.cond {c : Operand} {x y : Code} (p : Prop) [Decidable p] (hc : ev F c = .bool (decide p)) (ht : p → C P W0 n SQ x F D L) (hf : ¬ p → C P W0 n SQ y F D L) : C P W0 n SQ (.cond c x y) F D L :=
  C.condB (decide p) hc (fun h => ht (of_decide_eq_true h)) (fun h => hf (of_decide_eq_false h))
theorem C.condT {c : Operand} {x y : Code} (hc : ev F c = .bool true) (ht : C P W0 n SQ x F D L) : C P W0 n SQ (.cond c x y) F D L := C.condB true hc (fun _ => ht) (fun h => by cases h)
theorem C.condF {c : Operand} {x y : Code} (hc : ev F c = .bool false) (hf : C P W0 n SQ y F D L) : C P W0 n SQ (.cond c x y) F D L := C.condB false hc (fun h => by cases h) (fun _ => hf)
theorem C.yes {c : Operand} {x y : Code} {p : Prop} [Decidable p] (hc : ev F c = .bool (decide p)) (hp : p) (ht : C P W0 n SQ x F D L) : C P W0 n SQ (.cond c x y) F D L := C.condT (by rw [hc, decide_eq_true hp]) ht
theorem C.no {c : Operand} {x y : Code} {p : Prop} [Decidable p] (hc : ev F c = .bool (decide p)) (hp : ¬ p) (hf : C P W0 n SQ y F D L) : C P W0 n SQ (.cond c x y) F D L := C.condF (by rw [hc, decide_eq_false hp]) hf
theorem C.loop {c : Code} (I : Nat → (Nat → Value) → List Deferred → List Seg → Prop) (h0 : ∃ m, I m F D L)
    (round : ∀ m F D L, I m F D L → C P W0 n (SPost.seq (fun F D L => ∃ m', m' < m ∧ I m' F D L) SQ) c F D L) : C P W0 n SQ (.loop c) F D L := by
  obtain ⟨m, h0⟩ := h0
  intro a w hs hd hm b k cs
  have key : ∀ m F D L, I m F D L → ∀ a w, Sl n a F → a.defers = D → Mem W0 w L →
      ∃ e a' w', lift W0 n SQ e a' w' ∧ Arrives P (lone (b.at a (.code c :: .inLoop c :: k)) cs w) b k cs e a' w' := by
    intro m
    induction m using Nat.strongRecOn with
    | _ m ih =>
      intro F D L hI a w hs hd hm
      obtain ⟨e, a₁, w₁, ⟨F₁, L₁, h1, h2, h3⟩, harr⟩ := round m F D L hI a w hs hd hm b (.inLoop c :: k) cs
      cases e with
      | normal =>
        obtain ⟨m', hlt, hI'⟩ := h3
        obtain ⟨e₂, a₂, w₂, hq₂, harr₂⟩ := ih m' hlt F₁ _ L₁ hI' a₁ w₁ h1 rfl h2
        exact ⟨e₂, a₂, w₂, hq₂, .of_steps (Steps.trans harr (.one step_inLoop)) harr₂⟩
      | exit id => exact ⟨_, a₁, w₁, ⟨F₁, L₁, h1, h2, h3⟩, .pass (x := .inLoop c) rfl (fun _ _ => .inl (by simp)) harr⟩
      | goto l => exact ⟨_, a₁, w₁, ⟨F₁, L₁, h1, h2, h3⟩, .pass (x := .inLoop c) rfl (fun _ _ => .inl (by simp)) harr⟩
      | ret => exact ⟨_, a₁, w₁, ⟨F₁, L₁, h1, h2, h3⟩, .pass (x := .inLoop c) rfl (fun _ _ => .inl (by simp)) harr⟩
      | panic ch => exact ⟨_, a₁, w₁, ⟨F₁, L₁, h1, h2, h3⟩, .pass (x := .inLoop c) rfl (fun _ _ => .inl (by simp)) harr⟩
      | outgrown => exact ⟨_, a₁, w₁, ⟨F₁, L₁, h1, h2, h3⟩, .pass (x := .inLoop c) rfl (fun _ _ => .inl (by simp)) harr⟩
  obtain ⟨e, a', w', hq, harr⟩ := key m F D L h0 a w hs hd hm
  exact ⟨e, a', w', hq, .of_steps (.one step_loop) harr⟩

/-! ### Regions -/
theorem C.region {id : Nat} {l : List Oper} (h : G P W0 n SQ l.toArray l F D L) : C P W0 n SQ (.region id l.toArray false) F D L :=
  fun a w hs hd hm => wp_region_lit (h a w hs hd hm)
theorem G.nil {ops : Array Oper} (h : SQ .normal F D L) : G P W0 n SQ ops [] F D L := fun _ _ hs hd hm => wpList_nil ⟨F, L, hs, hm, hd ▸ h⟩
theorem G.fix {ops : Array Oper} {rest : List Oper} {d : Nat} {v : Value} (h : F d = v) (k : G P W0 n SQ ops rest (upd F d v) D L) : G P W0 n SQ ops rest F D L := by
  rwa [upd_eq h] at k

/-- the operation runs: it has no guard, or its guard lets it -/
def runs (n : Nat) (ops : Array Oper) (F : Nat → Value) (o : Oper) : Prop :=
  match o.guard with
  | none => True
  | some (j, b) => ∃ t, (ops[j]?).bind (·.dst) = some t ∧ Nat.blt t n = true ∧ F t = .bool b
theorem yielded_of {ops : Array Oper} {a : Act} (hs : Sl n a F) {j t : Nat} {b : Bool} (h1 : (ops[j]?).bind (·.dst) = some t) (h2 : Nat.blt t n = true) (h3 : F t = .bool b) : yielded ops a.tmps j = some b := by
  have hlt : t < a.tmps.size := by rw [hs.size]; exact Nat.le_of_ble_eq_true h2
  have ht := hs.at_ t
  rw [h3] at ht
  unfold yielded
  rw [h1]
  simp only [Option.bind_some]
  simp only [Array.getD, hlt, dif_pos] at ht
  simp only [hlt, getElem?_pos]
  rw [show a.tmps[t] = Value.bool b from ht]
theorem wanted_of {ops : Array Oper} {a : Act} {o : Oper} (hs : Sl n a F) (h : runs n ops F o) : Region.wanted o (yielded ops a.tmps) = true := by
  unfold runs at h
  unfold Region.wanted
  split at h
  · rename_i hg; rw [hg]
  · rename_i j b hg
    obtain ⟨t, h1, h2, h3⟩ := h
    rw [hg]
    simp [yielded_of hs h1 h2 h3]
theorem G.skip {ops : Array Oper} {o : Oper} {rest : List Oper} {j t : Nat} {b : Bool} (hg : o.guard = some (j, b)) (h1 : (ops[j]?).bind (·.dst) = some t) (h2 : Nat.blt t n = true) (h3 : F t = .bool !b)
    {d : Nat} (hd : o.dst = some d) (hn : Nat.blt d n = true) (k : G P W0 n SQ ops rest (upd F d undef) D L) : G P W0 n SQ ops (o :: rest) F D L := by
  intro a w hs hD hm
  unfold wpList
  have hw : Region.wanted o (yielded ops a.tmps) = false := by
    unfold Region.wanted
    rw [hg]
    simp only [yielded_of hs h1 h2 h3]
    cases b <;> rfl
  rw [if_neg (by simp [hw])]
  exact k _ w (hs.put hd hn _) (by rw [put_defers]; exact hD) hm
/-- a slot that holds a bool, parted -/
theorem G.fork {ops : Array Oper} {rest : List Oper} {t : Nat} (p : Prop) [Decidable p] (h : F t = .bool (decide p)) (ht : p → G P W0 n SQ ops rest (upd F t (.bool true)) D L) (hf : ¬ p → G P W0 n SQ ops rest (upd F t (.bool false)) D L) : G P W0 n SQ ops rest F D L := by
  by_cases hp : p
  · have := ht hp
    rwa [upd_eq (by rw [h, decide_eq_true hp])] at this
  · have := hf hp
    rwa [upd_eq (by rw [h, decide_eq_false hp])] at this
theorem G.forkB {ops : Array Oper} {rest : List Oper} {t : Nat} (b : Bool) (h : F t = .bool b) (ht : b = true → G P W0 n SQ ops rest (upd F t (.bool true)) D L) (hf : b = false → G P W0 n SQ ops rest (upd F t (.bool false)) D L) : G P W0 n SQ ops rest F D L := by
  cases b with
  | true => have := ht rfl; rwa [upd_eq h] at this
  | false => have := hf rfl; rwa [upd_eq h] at this
theorem G.yes {ops : Array Oper} {rest : List Oper} {t : Nat} {p : Prop} [Decidable p] (h : F t = .bool (decide p)) (hp : p) (k : G P W0 n SQ ops rest (upd F t (.bool true)) D L) : G P W0 n SQ ops rest F D L := by
  rwa [upd_eq (by rw [h, decide_eq_true hp])] at k
theorem G.no {ops : Array Oper} {rest : List Oper} {t : Nat} {p : Prop} [Decidable p] (h : F t = .bool (decide p)) (hp : ¬ p) (k : G P W0 n SQ ops rest (upd F t (.bool false)) D L) : G P W0 n SQ ops rest F D L := by
  rwa [upd_eq (by rw [h, decide_eq_false hp])] at k
/-- any operation that gives a value -/
theorem G.eff {ops : Array Oper} {o : Oper} {rest : List Oper} (hr : runs n ops F o) {d : Nat} (hd : o.dst = some d) (hn : Nat.blt d n = true)
    (h : ∀ w, Mem W0 w L → ∃ v w' L', (execOp (ev F) o).run P w = .ok (.value v) w' ∧ Mem W0 w' L' ∧ G P W0 n SQ ops rest (upd F d v) D L') : G P W0 n SQ ops (o :: rest) F D L := by
  intro a w hs hD hm
  unfold wpList
  rw [if_pos (wanted_of hs hr)]
  refine .inl ?_
  obtain ⟨v, w', L', h1, h2, h3⟩ := h w hm
  unfold Oper.wp
  rw [hs.eval_fun, h1]
  exact h3 _ w' (hs.put hd hn v) (by rw [put_defers]; exact hD) h2
theorem G.effSkip {ops : Array Oper} {o : Oper} {rest : List Oper} (hr : runs n ops F o) (hd : o.dst = none)
    (h : ∀ w, Mem W0 w L → ∃ w' L', (execOp (ev F) o).run P w = .ok .skip w' ∧ Mem W0 w' L' ∧ G P W0 n SQ ops rest F D L') : G P W0 n SQ ops (o :: rest) F D L := by
  intro a w hs hD hm
  unfold wpList
  rw [if_pos (wanted_of hs hr)]
  refine .inl ?_
  obtain ⟨w', L', h1, h2, h3⟩ := h w hm
  unfold Oper.wp
  rw [hs.eval_fun, h1, Oper.upon_skip, hd]
  exact h3 _ w' hs hD h2
/-- an operation that leaves the world alone -/
theorem G.val {ops : Array Oper} {o : Oper} {rest : List Oper} (v : Value) (hr : runs n ops F o) {d : Nat} (hd : o.dst = some d) (hn : Nat.blt d n = true)
    (h : ∀ w, Mem W0 w L → (execOp (ev F) o).run P w = .ok (.value v) w) (k : G P W0 n SQ ops rest (upd F d v) D L) : G P W0 n SQ ops (o :: rest) F D L :=
  G.eff hr hd hn fun w hm => ⟨v, w, L, h w hm, hm, k⟩
/-- a call of a function of the program -/
theorem G.enter {ops : Array Oper} {o : Oper} {rest : List Oper} {f : FuncId} {args : Array Value} (hr : runs n ops F o) {d : Nat} (hd : o.dst = some d) (hn : Nat.blt d n = true)
    (h : ∀ w, Mem W0 w L → (execOp (ev F) o).run P w = .ok (.enter f args) w) {R : Ending → List Seg → Prop} (hf : FnS P W0 f args L R)
    (k : ∀ e L', R e L' → match e with
      | .returned v => G P W0 n SQ ops rest (upd F d v) D L'
      | .panicked chain => SQ (.panic chain) F D L'
      | .outgrown => False) : G P W0 n SQ ops (o :: rest) F D L := by
  intro a w hs hD hm
  unfold wpList
  rw [if_pos (wanted_of hs hr)]
  refine .inl ?_
  unfold Oper.wp
  rw [hs.eval_fun, h w hm]
  rw [Oper.upon_enter]
  refine (hf w hm).mono ?_
  rintro e w' ⟨L', h1, h2⟩
  have h3 := k e L' h2
  cases e with
  | returned v => exact h3 _ w' (hs.put hd hn v) (by rw [put_defers]; exact hD) h1
  | panicked chain => exact ⟨F, L', hs, h1, hD ▸ h3⟩
  | outgrown => exact h3.elim
/-- an operation that panics -/
theorem G.panics {ops : Array Oper} {o : Oper} {rest : List Oper} (v : Value) (hr : runs n ops F o)
    (h : ∀ w, Mem W0 w L → ∃ w' L', (execOp (ev F) o).run P w = .halt (.panic v) w' ∧ Mem W0 w' L' ∧ SQ (.panic [{ v, recovered := false }]) F D L') : G P W0 n SQ ops (o :: rest) F D L := by
  intro a w hs hD hm
  unfold wpList
  rw [if_pos (wanted_of hs hr)]
  refine .inl ?_
  obtain ⟨w', L', h1, h2, h3⟩ := h w hm
  unfold Oper.wp
  rw [hs.eval_fun, h1]
  exact ⟨F, L', hs, h2, hD ▸ h3⟩
theorem G.defer {ops : Array Oper} {o : Oper} {rest : List Oper} (d : Deferred) (hr : runs n ops F o) (hd : o.dst = none)
    (h : ∀ w, Mem W0 w L → (execOp (ev F) o).run P w = .ok (.defer d) w) (k : G P W0 n SQ ops rest F (d :: D) L) : G P W0 n SQ ops (o :: rest) F D L := by
  intro a w hs hD hm
  unfold wpList
  rw [if_pos (wanted_of hs hr)]
  refine .inl ?_
  unfold Oper.wp
  rw [hs.eval_fun, h w hm, Oper.upon_defer, hd]
  exact k _ w ⟨hs.size, hs.at_⟩ (by simp [Act.put, hD]) hm
end rules

/-! ### Functions -/
def retV (rs : List ResultVar) (F : Nat → Value) : Option Value :=
  match rs with
  | [.tmp t] => some (F t)
  | [.tmp t, .tmp u] => some (.tuple #[F t, F u])
  | [.tmp t, .tmp u, .tmp x] => some (.tuple #[F t, F u, F x])
  | [.tmp t, .tmp u, .tmp x, .tmp y] => some (.tuple #[F t, F u, F x, F y])
  | [] => some (.tuple #[])
  | _ => none
/-- what the function's results come to, read at its end -/
def Res (P : Program) (W0 : World) (fn : Func) (F : Nat → Value) (L : List Seg) (v : Value) : Prop :=
  ∀ a w, Sl fn.ntmps a F → Mem W0 w L → (results fn a.tmps).run P w = .ok v w
theorem Res.of {P : Program} {W0 : World} {fn : Func} {F : Nat → Value} {L : List Seg} {v : Value} {rs : List ResultVar} (h : fn.results = rs.toArray) (hv : retV rs F = some v) : Res P W0 fn F L v := by
  intro a w hs _
  unfold retV at hv
  split at hv <;> simp only [Option.some.injEq, reduceCtorEq] at hv <;> subst hv <;> simp [results, h, ← hs.at_]
def retPost (P : Program) (W0 : World) (fn : Func) (R : Ending → List Seg → Prop) : SPost
  | .normal, F, D, L | .ret, F, D, L => D = [] ∧ ∃ v, Res P W0 fn F L v ∧ R (.returned v) L
  | .panic chain, _, D, L => D = [] ∧ R (.panicked chain) L
  | _, _, _, _ => False

theorem argF_at (args : List Value) (m t : Nat) : (args ++ List.replicate m undef)[t]?.getD undef = argF args t := by
  induction args generalizing t with
  | nil =>
    simp only [List.nil_append, argF]
    rw [List.getElem?_replicate]
    split <;> rfl
  | cons v vs ih =>
    cases t with
    | zero => rfl
    | succ t => simpa [argF] using ih t
theorem FnS.of {P : Program} {W0 : World} {f : FuncId} {fn : Func} {c : Code} {args : List Value} {L : List Seg} {R : Ending → List Seg → Prop}
    (hf : P.funcs[f]? = some fn) (hb : fn.body = some c) (hn : Nat.ble args.length fn.ntmps = true)
    (h : C P W0 fn.ntmps (retPost P W0 fn R) c (argF args) [] L) : FnS P W0 f args.toArray L R := by
  intro w hm
  refine calls_of_wp hf hb (Code.wp_mono ?_ (h _ w ⟨?_, fun t => ?_⟩ rfl hm))
  · rintro e a' w' ⟨F', L', h1, h2, h3⟩
    cases e with
    | normal =>
      obtain ⟨hd, v, hv, hR⟩ := h3
      exact ⟨hd, v, hv _ _ h1 h2, L', h2, hR⟩
    | ret =>
      obtain ⟨hd, v, hv, hR⟩ := h3
      exact ⟨hd, v, hv _ _ h1 h2, L', h2, hR⟩
    | panic ch =>
      obtain ⟨hd, hR⟩ := h3
      exact ⟨hd, L', h2, hR⟩
    | exit id => exact h3.elim
    | goto l => exact h3.elim
    | outgrown => exact h3.elim
  · have := Nat.le_of_ble_eq_true hn
    simp only [Array.size_append, List.size_toArray, Array.size_replicate]
    omega
  · rw [← argF_at args (fn.ntmps - args.toArray.size) t]
    simp only [Array.getD_eq_getD_getElem?]
    congr 1
    rw [← Array.getElem?_toList]
    simp
theorem FnS.mono {P : Program} {W0 : World} {f : FuncId} {args : Array Value} {L : List Seg} {R R' : Ending → List Seg → Prop} (h : FnS P W0 f args L R) (hr : ∀ e L', R e L' → R' e L') : FnS P W0 f args L R' :=
  fun w hm => (h w hm).mono fun e _ ⟨L', h1, h2⟩ => ⟨L', h1, hr e L' h2⟩
/-- the heap's list in another order -/
theorem FnS.perm {P : Program} {W0 : World} {f : FuncId} {args : Array Value} {L L' : List Seg} {R : Ending → List Seg → Prop} (h : FnS P W0 f args L' R) (hp : L.flatten.Perm L'.flatten) : FnS P W0 f args L R :=
  fun w hm => h w (hm.of_flat hp)
end Go.SL
/-
  One rule for each operation of the model, over a heap that is told block by block (first part: numbers, slots, cells, addresses). No program in sight.
-/
namespace Go.SL
open Go Go.RowKit

def Inf (P : Program) (t : TypeId) (size bytes : Nat) (zero : Value) : Prop := ∃ i, P.info? t = some i ∧ i.size = size ∧ i.bytes = bytes ∧ i.zero = some zero
theorem Inf.of {P : Program} {t : TypeId} {size bytes : Nat} {zero : Value} (h : (P.info? t).map (fun i => (i.size, i.bytes, i.zero)) = some (size, bytes, some zero)) : Inf P t size bytes zero := by
  cases hi : P.info? t with
  | none => rw [hi] at h; cases h
  | some i =>
    rw [hi] at h
    simp only [Option.map_some, Option.some.injEq, Prod.mk.injEq] at h
    exact ⟨i, hi, h.1, h.2.1, h.2.2⟩

section
variable {P : Program} {w : World}
theorem Inf.run_typeInfo {t : TypeId} {size bytes : Nat} {zero : Value} (h : Inf P t size bytes zero) : ∃ i, (typeInfo t).run P w = .ok i w ∧ i.size = size ∧ i.bytes = bytes ∧ i.zero = some zero := by
  obtain ⟨i, h1, h2⟩ := h
  exact ⟨i, by simp [typeInfo, h1], h2⟩
theorem Inf.run_size {t : TypeId} {size bytes : Nat} {zero : Value} (h : Inf P t size bytes zero) : (sizeOf t).run P w = .ok size w := by
  obtain ⟨i, h1, h2, h3⟩ := h
  simp [sizeOf, typeInfo, h1, h2]
theorem Inf.run_zero {t : TypeId} {size bytes : Nat} {zero : Value} (h : Inf P t size bytes zero) : (zeroValue t).run P w = .ok zero w := by
  obtain ⟨i, h1, h2, h3, h4⟩ := h
  simp [zeroValue, typeInfo, h1, h4]
end

/-! ### Values of whole numbers -/
def binI (op : BinOp) (k : IntKind) (a b : Int) : Option Value :=
  match op with
  | .add => some (.int k (k.wrap (a + b)))
  | .sub => some (.int k (k.wrap (a - b)))
  | .mul => some (.int k (k.wrap (a * b)))
  | .and => some (.int k (k.wrap (BitVec.ofInt k.bits a &&& BitVec.ofInt k.bits b).toNat))
  | .or => some (.int k (k.wrap (BitVec.ofInt k.bits a ||| BitVec.ofInt k.bits b).toNat))
  | .xor => some (.int k (k.wrap (BitVec.ofInt k.bits a ^^^ BitVec.ofInt k.bits b).toNat))
  | .andNot => some (.int k (k.wrap (BitVec.ofInt k.bits a &&& ~~~ BitVec.ofInt k.bits b).toNat))
  | .eql => some (.bool (decide (a = b)))
  | .neq => some (.bool (decide (¬ a = b)))
  | .lss => some (.bool (decide (a < b)))
  | .leq => some (.bool (decide (a ≤ b)))
  | .gtr => some (.bool (decide (b < a)))
  | .geq => some (.bool (decide (b ≤ a)))
  | _ => none

section rules
variable {P : Program} {W0 : World} {n : Nat} {SQ : SPost} {F : Nat → Value} {D : List Deferred} {L : List Seg} {ops : Array Oper} {rest : List Oper} {o : Oper}

/-- a copy, by the shape of what is copied -/
theorem G.mv {x : Operand} (v : Value) (ho : o.op = .move x ∨ o.op = .assign x) (hr : runs n ops F o) {d : Nat} (hd : o.dst = some d) (hn : Nat.blt d n = true) (hx : ev F x = v) (k : G P W0 n SQ ops rest (upd F d v) D L) : G P W0 n SQ ops (o :: rest) F D L :=
  G.val v hr hd hn (fun w _ => by rcases ho with ho | ho <;> simp [execOp, ho, hx]) k
theorem G.move {x : Operand} (v : Value) (ho : o.op = .move x) (hr : runs n ops F o) {d : Nat} (hd : o.dst = some d) (hn : Nat.blt d n = true) (hx : ev F x = v) (k : G P W0 n SQ ops rest (upd F d v) D L) : G P W0 n SQ ops (o :: rest) F D L := G.mv v (.inl ho) hr hd hn hx k
theorem G.assign {x : Operand} (v : Value) (ho : o.op = .assign x) (hr : runs n ops F o) {d : Nat} (hd : o.dst = some d) (hn : Nat.blt d n = true) (hx : ev F x = v) (k : G P W0 n SQ ops rest (upd F d v) D L) : G P W0 n SQ ops (o :: rest) F D L := G.mv v (.inr ho) hr hd hn hx k
theorem G.moveI {x : Operand} {kd : IntKind} {a : Int} (ho : o.op = .move x) (hr : runs n ops F o) {d : Nat} (hd : o.dst = some d) (hn : Nat.blt d n = true) (hx : ev F x = .int kd a) (k : G P W0 n SQ ops rest (upd F d (.int kd a)) D L) : G P W0 n SQ ops (o :: rest) F D L := G.mv _ (.inl ho) hr hd hn hx k
theorem G.assignI {x : Operand} {kd : IntKind} {a : Int} (ho : o.op = .assign x) (hr : runs n ops F o) {d : Nat} (hd : o.dst = some d) (hn : Nat.blt d n = true) (hx : ev F x = .int kd a) (k : G P W0 n SQ ops rest (upd F d (.int kd a)) D L) : G P W0 n SQ ops (o :: rest) F D L := G.mv _ (.inr ho) hr hd hn hx k
theorem G.moveB {x : Operand} {b : Bool} (ho : o.op = .move x) (hr : runs n ops F o) {d : Nat} (hd : o.dst = some d) (hn : Nat.blt d n = true) (hx : ev F x = .bool b) (k : G P W0 n SQ ops rest (upd F d (.bool b)) D L) : G P W0 n SQ ops (o :: rest) F D L := G.mv _ (.inl ho) hr hd hn hx k
theorem G.assignB {x : Operand} {b : Bool} (ho : o.op = .assign x) (hr : runs n ops F o) {d : Nat} (hd : o.dst = some d) (hn : Nat.blt d n = true) (hx : ev F x = .bool b) (k : G P W0 n SQ ops rest (upd F d (.bool b)) D L) : G P W0 n SQ ops (o :: rest) F D L := G.mv _ (.inr ho) hr hd hn hx k
theorem G.moveS {x : Operand} {a : Option Addr} {l c : Nat} (ho : o.op = .move x) (hr : runs n ops F o) {d : Nat} (hd : o.dst = some d) (hn : Nat.blt d n = true) (hx : ev F x = .slice a l c) (k : G P W0 n SQ ops rest (upd F d (.slice a l c)) D L) : G P W0 n SQ ops (o :: rest) F D L := G.mv _ (.inl ho) hr hd hn hx k
theorem G.assignS {x : Operand} {a : Option Addr} {l c : Nat} (ho : o.op = .assign x) (hr : runs n ops F o) {d : Nat} (hd : o.dst = some d) (hn : Nat.blt d n = true) (hx : ev F x = .slice a l c) (k : G P W0 n SQ ops rest (upd F d (.slice a l c)) D L) : G P W0 n SQ ops (o :: rest) F D L := G.mv _ (.inr ho) hr hd hn hx k
theorem G.moveP {x : Operand} {a : Option Addr} (ho : o.op = .move x) (hr : runs n ops F o) {d : Nat} (hd : o.dst = some d) (hn : Nat.blt d n = true) (hx : ev F x = .pointer a) (k : G P W0 n SQ ops rest (upd F d (.pointer a)) D L) : G P W0 n SQ ops (o :: rest) F D L := G.mv _ (.inl ho) hr hd hn hx k
theorem G.assignP {x : Operand} {a : Option Addr} (ho : o.op = .assign x) (hr : runs n ops F o) {d : Nat} (hd : o.dst = some d) (hn : Nat.blt d n = true) (hx : ev F x = .pointer a) (k : G P W0 n SQ ops rest (upd F d (.pointer a)) D L) : G P W0 n SQ ops (o :: rest) F D L := G.mv _ (.inr ho) hr hd hn hx k
theorem G.moveT {x : Operand} {s : ByteArray} (ho : o.op = .move x) (hr : runs n ops F o) {d : Nat} (hd : o.dst = some d) (hn : Nat.blt d n = true) (hx : ev F x = .string s) (k : G P W0 n SQ ops rest (upd F d (.string s)) D L) : G P W0 n SQ ops (o :: rest) F D L := G.mv _ (.inl ho) hr hd hn hx k
theorem G.assignT {x : Operand} {s : ByteArray} (ho : o.op = .assign x) (hr : runs n ops F o) {d : Nat} (hd : o.dst = some d) (hn : Nat.blt d n = true) (hx : ev F x = .string s) (k : G P W0 n SQ ops rest (upd F d (.string s)) D L) : G P W0 n SQ ops (o :: rest) F D L := G.mv _ (.inr ho) hr hd hn hx k
theorem G.moveU {x : Operand} {vs : Array Value} (ho : o.op = .move x) (hr : runs n ops F o) {d : Nat} (hd : o.dst = some d) (hn : Nat.blt d n = true) (hx : ev F x = .tuple vs) (k : G P W0 n SQ ops rest (upd F d (.tuple vs)) D L) : G P W0 n SQ ops (o :: rest) F D L := G.mv _ (.inl ho) hr hd hn hx k
theorem G.assignU {x : Operand} {vs : Array Value} (ho : o.op = .assign x) (hr : runs n ops F o) {d : Nat} (hd : o.dst = some d) (hn : Nat.blt d n = true) (hx : ev F x = .tuple vs) (k : G P W0 n SQ ops rest (upd F d (.tuple vs)) D L) : G P W0 n SQ ops (o :: rest) F D L := G.mv _ (.inr ho) hr hd hn hx k
theorem G.moveF {x : Operand} {fn : Fn} {vs us : Array Value} (ho : o.op = .move x) (hr : runs n ops F o) {d : Nat} (hd : o.dst = some d) (hn : Nat.blt d n = true) (hx : ev F x = .func fn vs us) (k : G P W0 n SQ ops rest (upd F d (.func fn vs us)) D L) : G P W0 n SQ ops (o :: rest) F D L := G.mv _ (.inl ho) hr hd hn hx k
theorem G.moveM {x : Operand} {r : Option Nat} (ho : o.op = .move x) (hr : runs n ops F o) {d : Nat} (hd : o.dst = some d) (hn : Nat.blt d n = true) (hx : ev F x = .map r) (k : G P W0 n SQ ops rest (upd F d (.map r)) D L) : G P W0 n SQ ops (o :: rest) F D L := G.mv _ (.inl ho) hr hd hn hx k
theorem G.moveW {x : Operand} {t : TypeId} {v : Value} (ho : o.op = .move x) (hr : runs n ops F o) {d : Nat} (hd : o.dst = some d) (hn : Nat.blt d n = true) (hx : ev F x = .iface t v) (k : G P W0 n SQ ops rest (upd F d (.iface t v)) D L) : G P W0 n SQ ops (o :: rest) F D L := G.mv _ (.inl ho) hr hd hn hx k
theorem G.assignW {x : Operand} {t : TypeId} {v : Value} (ho : o.op = .assign x) (hr : runs n ops F o) {d : Nat} (hd : o.dst = some d) (hn : Nat.blt d n = true) (hx : ev F x = .iface t v) (k : G P W0 n SQ ops rest (upd F d (.iface t v)) D L) : G P W0 n SQ ops (o :: rest) F D L := G.mv _ (.inr ho) hr hd hn hx k
theorem G.assignF {x : Operand} {fn : Fn} {vs us : Array Value} (ho : o.op = .assign x) (hr : runs n ops F o) {d : Nat} (hd : o.dst = some d) (hn : Nat.blt d n = true) (hx : ev F x = .func fn vs us) (k : G P W0 n SQ ops rest (upd F d (.func fn vs us)) D L) : G P W0 n SQ ops (o :: rest) F D L := G.mv _ (.inr ho) hr hd hn hx k
theorem G.assignM {x : Operand} {r : Option Nat} (ho : o.op = .assign x) (hr : runs n ops F o) {d : Nat} (hd : o.dst = some d) (hn : Nat.blt d n = true) (hx : ev F x = .map r) (k : G P W0 n SQ ops rest (upd F d (.map r)) D L) : G P W0 n SQ ops (o :: rest) F D L := G.mv _ (.inr ho) hr hd hn hx k
theorem G.moveG {x : Operand} {cs : Array Value} (ho : o.op = .move x) (hr : runs n ops F o) {d : Nat} (hd : o.dst = some d) (hn : Nat.blt d n = true) (hx : ev F x = .agg cs) (k : G P W0 n SQ ops rest (upd F d (.agg cs)) D L) : G P W0 n SQ ops (o :: rest) F D L := G.mv _ (.inl ho) hr hd hn hx k
theorem G.assignG {x : Operand} {cs : Array Value} (ho : o.op = .assign x) (hr : runs n ops F o) {d : Nat} (hd : o.dst = some d) (hn : Nat.blt d n = true) (hx : ev F x = .agg cs) (k : G P W0 n SQ ops rest (upd F d (.agg cs)) D L) : G P W0 n SQ ops (o :: rest) F D L := G.mv _ (.inr ho) hr hd hn hx k
theorem G.pickT {c x y : Operand} {b' : Bool} (ho : o.op = .pick c x y) (hr : runs n ops F o) {d : Nat} (hd : o.dst = some d) (hn : Nat.blt d n = true) (hc : ev F c = .bool true) (hx : ev F x = .bool b')
    (k : G P W0 n SQ ops rest (upd F d (.bool b')) D L) : G P W0 n SQ ops (o :: rest) F D L :=
  G.val _ hr hd hn (fun w _ => by simp [execOp, ho, hc, asBool, hx]) k
theorem G.pickF {c x y : Operand} {b' : Bool} (ho : o.op = .pick c x y) (hr : runs n ops F o) {d : Nat} (hd : o.dst = some d) (hn : Nat.blt d n = true) (hc : ev F c = .bool false) (hx : ev F y = .bool b')
    (k : G P W0 n SQ ops rest (upd F d (.bool b')) D L) : G P W0 n SQ ops (o :: rest) F D L :=
  G.val _ hr hd hn (fun w _ => by simp [execOp, ho, hc, asBool, hx]) k
theorem binI_run {op : BinOp} {kd : IntKind} {a b : Int} {v : Value} (h : binI op kd a b = some v) (t : TypeId) (w : World) : (binOp op t (.int kd a) (.int kd b)).run P w = .ok v w := by
  unfold binI at h
  split at h <;> simp only [Option.some.injEq, reduceCtorEq] at h <;> subst h <;> simp [binOp, Op.intArith, Op.intBits, Op.intCmp]
  all_goals first | rfl | (congr 1)
theorem eqGuard_int {op : BinOp} {kd : IntKind} {a b : Int} (t : TypeId) (x y : Operand) (w : World) : (eqGuard op t x y (.int kd a) (.int kd b)).run P w = .ok () w := by
  unfold eqGuard
  split <;> simp
/-- two whole numbers of one kind -/
theorem G.bin {op : BinOp} {t yt : TypeId} {x y : Operand} {kd : IntKind} {a b : Int} {v : Value} (ho : o.op = .binOp op t x y yt) (hr : runs n ops F o) {d : Nat} (hd : o.dst = some d) (hn : Nat.blt d n = true)
    (hx : ev F x = .int kd a) (hy : ev F y = .int kd b) (hv : binI op kd a b = some v) (k : G P W0 n SQ ops rest (upd F d v) D L) : G P W0 n SQ ops (o :: rest) F D L :=
  G.val v hr hd hn (fun w _ => by simp [execOp, ho, hx, hy, eqGuard_int, binI_run hv]) k
/-- the same, its value told otherwise -/
theorem G.binE {op : BinOp} {t yt : TypeId} {x y : Operand} {kd : IntKind} {a b : Int} {v : Value} (v' : Value) (ho : o.op = .binOp op t x y yt) (hr : runs n ops F o) {d : Nat} (hd : o.dst = some d) (hn : Nat.blt d n = true)
    (hx : ev F x = .int kd a) (hy : ev F y = .int kd b) (hv : binI op kd a b = some v) (e : v = v') (k : G P W0 n SQ ops rest (upd F d v') D L) : G P W0 n SQ ops (o :: rest) F D L :=
  G.bin ho hr hd hn hx hy (e ▸ hv) k
theorem wrap_in (kd : IntKind) {z : Int} (h : kd.min ≤ z ∧ z ≤ kd.max) : kd.wrap z = z := by
  cases kd <;> simp [IntKind.wrap, IntKind.min, IntKind.max, IntKind.bits, IntKind.signed] at * <;> omega
theorem wrap_i64 {z : Int} (h : -9223372036854775808 ≤ z ∧ z ≤ 9223372036854775807) : IntKind.i64.wrap z = z := wrap_in .i64 (by simpa [IntKind.min, IntKind.max, IntKind.bits, IntKind.signed] using h)
/-- sums, differences, products of ints that fit -/
theorem G.add {t yt : TypeId} {x y : Operand} {a b : Int} (ho : o.op = .binOp .add t x y yt) (hr : runs n ops F o) {d : Nat} (hd : o.dst = some d) (hn : Nat.blt d n = true) (hx : ev F x = .int .i64 a) (hy : ev F y = .int .i64 b)
    (h : -9223372036854775808 ≤ a + b ∧ a + b ≤ 9223372036854775807) (k : G P W0 n SQ ops rest (upd F d (.int .i64 (a + b))) D L) : G P W0 n SQ ops (o :: rest) F D L :=
  G.binE _ ho hr hd hn hx hy rfl (by rw [wrap_i64 h]) k
theorem G.sub {t yt : TypeId} {x y : Operand} {a b : Int} (ho : o.op = .binOp .sub t x y yt) (hr : runs n ops F o) {d : Nat} (hd : o.dst = some d) (hn : Nat.blt d n = true) (hx : ev F x = .int .i64 a) (hy : ev F y = .int .i64 b)
    (h : -9223372036854775808 ≤ a - b ∧ a - b ≤ 9223372036854775807) (k : G P W0 n SQ ops rest (upd F d (.int .i64 (a - b))) D L) : G P W0 n SQ ops (o :: rest) F D L :=
  G.binE _ ho hr hd hn hx hy rfl (by rw [wrap_i64 h]) k
theorem G.mul {t yt : TypeId} {x y : Operand} {a b : Int} (ho : o.op = .binOp .mul t x y yt) (hr : runs n ops F o) {d : Nat} (hd : o.dst = some d) (hn : Nat.blt d n = true) (hx : ev F x = .int .i64 a) (hy : ev F y = .int .i64 b)
    (h : -9223372036854775808 ≤ a * b ∧ a * b ≤ 9223372036854775807) (k : G P W0 n SQ ops rest (upd F d (.int .i64 (a * b))) D L) : G P W0 n SQ ops (o :: rest) F D L :=
  G.binE _ ho hr hd hn hx hy rfl (by rw [wrap_i64 h]) k
/-- / and % by a number that is not nought -/
theorem G.quo {t yt : TypeId} {x y : Operand} {kd : IntKind} {a b : Int} (ho : o.op = .binOp .quo t x y yt) (hr : runs n ops F o) {d : Nat} (hd : o.dst = some d) (hn : Nat.blt d n = true) (hx : ev F x = .int kd a) (hy : ev F y = .int kd b) (h0 : b ≠ 0)
    (k : G P W0 n SQ ops rest (upd F d (.int kd (kd.wrap (a.tdiv b)))) D L) : G P W0 n SQ ops (o :: rest) F D L :=
  G.val _ hr hd hn (fun w _ => by simp [execOp, ho, hx, hy, eqGuard_int, binOp, Op.intDiv, h0]) k
theorem G.rem {t yt : TypeId} {x y : Operand} {kd : IntKind} {a b : Int} (ho : o.op = .binOp .rem t x y yt) (hr : runs n ops F o) {d : Nat} (hd : o.dst = some d) (hn : Nat.blt d n = true) (hx : ev F x = .int kd a) (hy : ev F y = .int kd b) (h0 : b ≠ 0)
    (k : G P W0 n SQ ops rest (upd F d (.int kd (a.tmod b))) D L) : G P W0 n SQ ops (o :: rest) F D L :=
  G.val _ hr hd hn (fun w _ => by simp [execOp, ho, hx, hy, eqGuard_int, binOp, Op.intDiv, h0]) k
theorem eqGuard_ne {op : BinOp} (h1 : op ≠ .eql) (h2 : op ≠ .neq) (t : TypeId) (x y : Operand) (a b : Value) (w : World) : (eqGuard op t x y a b).run P w = .ok () w := by
  unfold eqGuard
  cases op <;> simp_all
theorem G.shl {t yt : TypeId} {x y : Operand} {kd ky : IntKind} {a b : Int} (ho : o.op = .binOp .shl t x y yt) (hr : runs n ops F o) {d : Nat} (hd : o.dst = some d) (hn : Nat.blt d n = true) (hx : ev F x = .int kd a) (hy : ev F y = .int ky b) (h0 : 0 ≤ b)
    (k : G P W0 n SQ ops rest (upd F d (.int kd (kd.wrap (a * 2 ^ (min b.toNat kd.bits))))) D L) : G P W0 n SQ ops (o :: rest) F D L :=
  G.val _ hr hd hn (fun w _ => by
    have hn : ¬ b < 0 := by omega
    simp [execOp, ho, hx, hy, eqGuard_ne, binOp, Op.shift, hn]) k
theorem G.shr {t yt : TypeId} {x y : Operand} {kd ky : IntKind} {a b : Int} (ho : o.op = .binOp .shr t x y yt) (hr : runs n ops F o) {d : Nat} (hd : o.dst = some d) (hn : Nat.blt d n = true) (hx : ev F x = .int kd a) (hy : ev F y = .int ky b) (h0 : 0 ≤ b)
    (k : G P W0 n SQ ops rest (upd F d (.int kd (a.fdiv (2 ^ (min b.toNat kd.bits))))) D L) : G P W0 n SQ ops (o :: rest) F D L :=
  G.val _ hr hd hn (fun w _ => by
    have hn : ¬ b < 0 := by omega
    simp [execOp, ho, hx, hy, eqGuard_ne, binOp, Op.shift, hn]) k
theorem G.not {t : TypeId} {x : Operand} {b : Bool} (ho : o.op = .unOp .not t x) (hr : runs n ops F o) {d : Nat} (hd : o.dst = some d) (hn : Nat.blt d n = true) (hx : ev F x = .bool b) (k : G P W0 n SQ ops rest (upd F d (.bool !b)) D L) : G P W0 n SQ ops (o :: rest) F D L :=
  G.val _ hr hd hn (fun w _ => by simp [execOp, ho, hx, Op.unary]) k
theorem G.notD {t : TypeId} {x : Operand} {p : Prop} [Decidable p] (ho : o.op = .unOp .not t x) (hr : runs n ops F o) {d : Nat} (hd : o.dst = some d) (hn : Nat.blt d n = true) (hx : ev F x = .bool (decide p)) (k : G P W0 n SQ ops rest (upd F d (.bool (decide ¬p))) D L) : G P W0 n SQ ops (o :: rest) F D L :=
  G.val _ hr hd hn (fun w _ => by simp [execOp, ho, hx, Op.unary]) k
theorem G.neg {t : TypeId} {x : Operand} {kd : IntKind} {a : Int} (ho : o.op = .unOp .neg t x) (hr : runs n ops F o) {d : Nat} (hd : o.dst = some d) (hn : Nat.blt d n = true) (hx : ev F x = .int kd a) (k : G P W0 n SQ ops rest (upd F d (.int kd (kd.wrap (0 - a)))) D L) : G P W0 n SQ ops (o :: rest) F D L :=
  G.val _ hr hd hn (fun w _ => by simp [execOp, ho, hx, Op.unary, Op.intArith]) k
theorem G.compl {t : TypeId} {x : Operand} {kd : IntKind} {a : Int} (ho : o.op = .unOp .xor t x) (hr : runs n ops F o) {d : Nat} (hd : o.dst = some d) (hn : Nat.blt d n = true) (hx : ev F x = .int kd a)
    (k : G P W0 n SQ ops rest (upd F d (.int kd (kd.wrap (BitVec.ofInt kd.bits (if kd.signed then -1 else kd.max) ^^^ BitVec.ofInt kd.bits a).toNat))) D L) : G P W0 n SQ ops (o :: rest) F D L :=
  G.val _ hr hd hn (fun w _ => by simp [execOp, ho, hx, Op.unary, Op.intBits]) k
theorem G.convInt {s t : TypeId} {x : Operand} {ks kd kx : IntKind} {a : Int} (ho : o.op = .convert s t x) (hr : runs n ops F o) {d : Nat} (hd : o.dst = some d) (hn : Nat.blt d n = true) (hus : P.underlying s = some (.int ks)) (hud : P.underlying t = some (.int kd)) (hx : ev F x = .int kx a)
    (k : G P W0 n SQ ops rest (upd F d (.int kd (kd.wrap a))) D L) : G P W0 n SQ ops (o :: rest) F D L :=
  G.val _ hr hd hn (fun w _ => by simp [execOp, ho, hx, convert, run_underlying hus, run_underlying hud, Conv.intToInt]) k
theorem G.extract {x : Operand} {i : Nat} {vs : Array Value} {v : Value} (ho : o.op = .extract x i) (hr : runs n ops F o) {d : Nat} (hd : o.dst = some d) (hn : Nat.blt d n = true) (hx : ev F x = .tuple vs) (hv : vs[i]? = some v) (k : G P W0 n SQ ops rest (upd F d v) D L) : G P W0 n SQ ops (o :: rest) F D L :=
  G.val _ hr hd hn (fun w _ => by simp [execOp, ho, hx, Instr.extract, hv]) k
theorem G.makeFunc {fn : Fn} {first captured : Array Operand} (ho : o.op = .makeFunc fn first captured) (hr : runs n ops F o) {d : Nat} (hd : o.dst = some d) (hn : Nat.blt d n = true) (k : G P W0 n SQ ops rest (upd F d (.func fn (first.map (ev F)) (captured.map (ev F)))) D L) : G P W0 n SQ ops (o :: rest) F D L :=
  G.val _ hr hd hn (fun w _ => by simp [execOp, ho, Instr.makeFunc]) k
def notIface : TypeDesc → Bool
  | .interface _ => false
  | _ => true
theorem G.makeInterface {t : TypeId} {x : Operand} {td : TypeDesc} (ho : o.op = .makeInterface t x) (hr : runs n ops F o) {d : Nat} (hd : o.dst = some d) (hn : Nat.blt d n = true) (hu : P.underlying t = some td) (hni : notIface td = true) (k : G P W0 n SQ ops rest (upd F d (.iface t (ev F x))) D L) : G P W0 n SQ ops (o :: rest) F D L :=
  G.val _ hr hd hn (fun w _ => by
    simp only [execOp, ho, Instr.makeInterface, Sem.run_bind, run_underlying hu, Result.andThen_ok]
    cases td <;> simp_all [notIface]) k
theorem G.nilCheckP {x : Operand} {a : Addr} (ho : o.op = .nilCheck x) (hr : runs n ops F o) {d : Nat} (hd : o.dst = some d) (hn : Nat.blt d n = true) (hx : ev F x = .pointer (some a)) (k : G P W0 n SQ ops rest (upd F d (.pointer (some a))) D L) : G P W0 n SQ ops (o :: rest) F D L :=
  G.val _ hr hd hn (fun w _ => by simp [execOp, ho, hx]) k
theorem G.nilCheckF {x : Operand} {f : FuncId} {first captured : Array Value} (ho : o.op = .nilCheck x) (hr : runs n ops F o) {d : Nat} (hd : o.dst = some d) (hn : Nat.blt d n = true) (hx : ev F x = .func (.func f) first captured) (k : G P W0 n SQ ops rest (upd F d (.func (.func f) first captured)) D L) : G P W0 n SQ ops (o :: rest) F D L :=
  G.val _ hr hd hn (fun w _ => by simp [execOp, ho, hx]) k

/-! ### Lengths, places -/
theorem G.lenSlice {x : Operand} {t e : TypeId} {a : Option Addr} {l c : Nat} (ho : o.op = .call { callee := .builtin .len, args := #[x], argTypes := #[t] }) (hr : runs n ops F o) {d : Nat} (hd : o.dst = some d) (hn : Nat.blt d n = true)
    (hu : P.underlying t = some (.slice e)) (hx : ev F x = .slice a l c) (k : G P W0 n SQ ops rest (upd F d (.int .i64 l)) D L) : G P W0 n SQ ops (o :: rest) F D L :=
  G.val _ hr hd hn (fun w _ => by simp [execOp, ho, hx, resolve, invoke, builtin, Builtin.len_, run_underlying hu, goInt]) k
theorem G.lenStr {x : Operand} {t : TypeId} {s : ByteArray} (ho : o.op = .call { callee := .builtin .len, args := #[x], argTypes := #[t] }) (hr : runs n ops F o) {d : Nat} (hd : o.dst = some d) (hn : Nat.blt d n = true)
    (hu : P.underlying t = some .string) (hx : ev F x = .string s) (k : G P W0 n SQ ops rest (upd F d (.int .i64 s.size)) D L) : G P W0 n SQ ops (o :: rest) F D L :=
  G.val _ hr hd hn (fun w _ => by simp [execOp, ho, hx, resolve, invoke, builtin, Builtin.len_, run_underlying hu, goInt]) k
theorem G.max2 {x y : Operand} {t1 t2 : TypeId} {kd : IntKind} {a b : Int} (ho : o.op = .call { callee := .builtin .max, args := #[x, y], argTypes := #[t1, t2] }) (hr : runs n ops F o) {d : Nat} (hd : o.dst = some d) (hn : Nat.blt d n = true)
    (hx : ev F x = .int kd a) (hy : ev F y = .int kd b) (k : G P W0 n SQ ops rest (upd F d (.int kd (if b > a then b else a))) D L) : G P W0 n SQ ops (o :: rest) F D L :=
  G.val _ hr hd hn (fun w _ => by simp [execOp, ho, hx, hy, resolve, invoke, builtin, Builtin.max_, Builtin.max2]) k
theorem G.min2 {x y : Operand} {t1 t2 : TypeId} {kd : IntKind} {a b : Int} (ho : o.op = .call { callee := .builtin .min, args := #[x, y], argTypes := #[t1, t2] }) (hr : runs n ops F o) {d : Nat} (hd : o.dst = some d) (hn : Nat.blt d n = true)
    (hx : ev F x = .int kd a) (hy : ev F y = .int kd b) (k : G P W0 n SQ ops rest (upd F d (.int kd (if b < a then b else a))) D L) : G P W0 n SQ ops (o :: rest) F D L :=
  G.val _ hr hd hn (fun w _ => by simp [execOp, ho, hx, hy, resolve, invoke, builtin, Builtin.min_, Builtin.min2]) k
theorem add_mul_addr (b o m : Nat) : (⟨b, o, none⟩ : Addr).add m = ⟨b, o + m, none⟩ := by
  unfold Addr.add
  split
  · subst_vars; rfl
  · rfl
theorem G.indexAddr {t e : TypeId} {x y : Operand} {kd : IntKind} {b off l c : Nat} {i : Int} {sz by_ : Nat} {z : Value} (ho : o.op = .indexAddr t x y) (hr : runs n ops F o) {d : Nat} (hd : o.dst = some d) (hn : Nat.blt d n = true)
    (hu : P.underlying t = some (.slice e)) (hi : Inf P e sz by_ z) (hx : ev F x = .slice (some ⟨b, off, none⟩) l c) (hy : ev F y = .int kd i) (h : 0 ≤ i ∧ i < l)
    (k : G P W0 n SQ ops rest (upd F d (.pointer (some ⟨b, off + i.toNat * sz, none⟩))) D L) : G P W0 n SQ ops (o :: rest) F D L :=
  G.val _ hr hd hn (fun w _ => by
    have hs := hi.run_size (w := w)
    have hs' : ∀ w, (sizeOf e).run P w = .ok sz w := fun w => hi.run_size
    simp [execOp, ho, hx, hy, Instr.indexAt, asIntOf, run_underlying hu, h.1, h.2, hs', add_mul_addr]) k
theorem G.indexAddrArr {t e : TypeId} {x y : Operand} {kd : IntKind} {b off l : Nat} {i : Int} {sz by_ : Nat} {z : Value} (ho : o.op = .indexAddr t x y) (hr : runs n ops F o) {d : Nat} (hd : o.dst = some d) (hn : Nat.blt d n = true)
    (hu : P.underlying t = some (.array l e)) (hi : Inf P e sz by_ z) (hx : ev F x = .pointer (some ⟨b, off, none⟩)) (hy : ev F y = .int kd i) (h : 0 ≤ i ∧ i < l)
    (k : G P W0 n SQ ops rest (upd F d (.pointer (some ⟨b, off + i.toNat * sz, none⟩))) D L) : G P W0 n SQ ops (o :: rest) F D L :=
  G.val _ hr hd hn (fun w _ => by
    have hs' : ∀ w, (sizeOf e).run P w = .ok sz w := fun w => hi.run_size
    simp [execOp, ho, hx, hy, Instr.indexAt, Instr.sureAddr, asIntOf, run_underlying hu, h.1, h.2, hs', add_mul_addr]) k
theorem G.fieldAddr {t : TypeId} {x : Operand} {fs : Array Field} {f : Field} {i b off sz by_ : Nat} {z : Value} (ho : o.op = .fieldAddr t x i) (hr : runs n ops F o) {d : Nat} (hd : o.dst = some d) (hn : Nat.blt d n = true)
    (hu : P.underlying t = some (.struct fs)) (hf : fs[i]? = some f) (hi : Inf P f.type sz by_ z) (hz : Nat.beq sz 0 = false) (hx : ev F x = .pointer (some ⟨b, off, none⟩))
    (k : G P W0 n SQ ops rest (upd F d (.pointer (some ⟨b, off + f.offset, none⟩))) D L) : G P W0 n SQ ops (o :: rest) F D L :=
  G.val _ hr hd hn (fun w _ => by
    have hs' : ∀ w, (sizeOf f.type).run P w = .ok sz w := fun w => hi.run_size
    have hz' : sz ≠ 0 := fun e => by subst e; cases hz
    simp [execOp, ho, hx, Instr.fieldAt, Instr.sureAddr, fieldPlace, run_underlying hu, hf, hs', hz', add_mul_addr]) k

/-! ### Cells -/
def scalar : TypeDesc → Bool
  | .struct _ | .array _ _ => false
  | _ => true
theorem run_isAgg_no {t : TypeId} {d : TypeDesc} (hu : P.underlying t = some d) (h : scalar d = true) (w : World) : (isAgg t).run P w = .ok false w := by
  simp only [isAgg, Sem.run_bind, run_underlying hu, Result.andThen_ok]
  cases d <;> simp_all [scalar]
theorem run_isAgg_yes {t : TypeId} {d : TypeDesc} (hu : P.underlying t = some d) (h : scalar d = false) (w : World) : (isAgg t).run P w = .ok true w := by
  simp only [isAgg, Sem.run_bind, run_underlying hu, Result.andThen_ok]
  cases d <;> simp_all [scalar]
theorem G.load {t : TypeId} {x : Operand} {td : TypeDesc} {a : Addr} {v : Value} (ho : o.op = .load t x) (hr : runs n ops F o) {d : Nat} (hd : o.dst = some d) (hn : Nat.blt d n = true) (hu : P.underlying t = some td) (hs : scalar td = true)
    (hx : ev F x = .pointer (some a)) (hc : ∀ w, Mem W0 w L → w.cell? a = some v) (k : G P W0 n SQ ops rest (upd F d v) D L) : G P W0 n SQ ops (o :: rest) F D L :=
  G.val _ hr hd hn (fun w hm => by
    have ha : ∀ w, (isAgg t).run P w = .ok false w := run_isAgg_no hu hs
    simp [execOp, ho, hx, Instr.loadAt, Instr.sureAddr, loadVar, ha, run_load, hc w hm]) k
/-- out of a block of the list -/
theorem G.loadAt {t : TypeId} {x : Operand} {td : TypeDesc} {b i : Nat} {v : Value} {cs : List Value} {e : TypeId} {kk : Nat} {u : Nat → SObj → List Seg} (ha : At L b (.row cs e kk) u) (ho : o.op = .load t x) (hr : runs n ops F o) {d : Nat} (hd : o.dst = some d) (hn : Nat.blt d n = true) (hu : P.underlying t = some td) (hs : scalar td = true)
    (hx : ev F x = .pointer (some ⟨b, i, none⟩)) (hc : cs[i]? = some v) (k : G P W0 n SQ ops rest (upd F d v) D L) : G P W0 n SQ ops (o :: rest) F D L :=
  G.load ho hr hd hn hu hs hx (fun _ hm => (hm.get ha).2.cell hc) k
def cellsOk (v : Value) : Bool := match v with | .agg _ | .tuple _ => false | _ => true
theorem cells_of_ok {v : Value} (h : cellsOk v = true) : v.cells = #[v] := by cases v <;> simp_all [cellsOk, Value.cells]
theorem one_of_ok {v : Value} (h : cellsOk v = true) : v.oneCell' = true := by cases v <;> simp_all [cellsOk, Value.oneCell']
theorem run_store_cell {b i : Nat} {v old : Value} {w : World} (h1 : cellsOk v = true) (hc : w.cell? ⟨b, i, none⟩ = some old) (hf : w.frozen? ⟨b, i, none⟩ = false) : (store ⟨b, i, none⟩ v).run P w = .ok () (w.setCell ⟨b, i, none⟩ v) := by
  cases v <;> simp_all [cellsOk, store, Sem.run]
theorem G.store {t : TypeId} {x y : Operand} {b i : Nat} {v : Value} {cs : List Value} {e : TypeId} {kk by_ : Nat} {z : Value} {u : Nat → SObj → List Seg} (ha : At L b (.row cs e kk) u) (ho : o.op = .store t x y) (hr : runs n ops F o) (hd : o.dst = none)
    (hi : Inf P t 1 by_ z) (hx : ev F x = .pointer (some ⟨b, i, none⟩)) (hy : ev F y = v) (h1 : cellsOk v = true) (hlt : i < cs.length) (cs' : List Value) (hset : cs.set i v = cs')
    (k : G P W0 n SQ ops rest F D (u b (.row cs' e kk))) : G P W0 n SQ ops (o :: rest) F D L :=
  G.effSkip hr hd fun w hm => by
    subst hset
    have hb := (hm.get ha).2
    have hsz : ∀ w, (sizeOf t).run P w = .ok 1 w := fun w => hi.run_size
    obtain ⟨old, hold⟩ : ∃ old, cs[i]? = some old := ⟨cs[i], List.getElem?_eq_getElem hlt⟩
    have hk : i < kk := by
      obtain ⟨rest, fr, _, h2, _⟩ := hb
      simp only [List.length_append] at h2
      omega
    refine ⟨w.setCell ⟨b, i, none⟩ v, _, ?_, hm.set ha hlt v, k⟩
    simp [execOp, ho, hx, hy, Instr.storeAt, Instr.sureAddr, storeVar, cells_of_ok h1, hsz, storeCells, add_mul_addr, run_store_cell h1 (hb.cell hold) (hb.unfrozen hk)]
theorem Holds.newRow (w : World) (cs : List Value) (t : TypeId) : Holds (w.alloc (.cells cs.toArray t)) w.heap.size (.row cs t cs.length) :=
  ⟨[], (0, 0), by show (w.heap.push _)[w.heap.size]? = _; simp, by simp, .inl rfl⟩
/-- a new variable, at its zero value -/
theorem G.alloc {t : TypeId} {sz by_ : Nat} {z : Value} (ho : o.op = .alloc t) (hr : runs n ops F o) {d : Nat} (hd : o.dst = some d) (hn : Nat.blt d n = true) (hi : Inf P t sz by_ z)
    (k : ∀ b, G P W0 n SQ ops rest (upd F d (.pointer (some ⟨b, 0, none⟩))) D ([(b, .row z.cells.toList t z.cells.toList.length)] :: L)) : G P W0 n SQ ops (o :: rest) F D L :=
  G.eff hr hd hn fun w hm => by
    have hz : ∀ w, (zeroValue t).run P w = .ok z w := fun w => hi.run_zero
    refine ⟨_, w.alloc (.cells z.cells t), _, ?_, hm.alloc _ ?_, k w.heap.size⟩
    · simp [execOp, ho, Instr.alloc, hz, newVar, Go.newRow]
    · simpa using Holds.newRow w z.cells.toList t
/-- a new variable, at a value -/
theorem G.box {t : TypeId} {x : Operand} (ho : o.op = .box t x) (hr : runs n ops F o) {d : Nat} (hd : o.dst = some d) (hn : Nat.blt d n = true)
    (k : ∀ b, G P W0 n SQ ops rest (upd F d (.pointer (some ⟨b, 0, none⟩))) D ([(b, .row (ev F x).cells.toList t (ev F x).cells.toList.length)] :: L)) : G P W0 n SQ ops (o :: rest) F D L :=
  G.eff hr hd hn fun w hm => by
    refine ⟨_, w.alloc (.cells (ev F x).cells t), _, ?_, hm.alloc _ ?_, k w.heap.size⟩
    · simp [execOp, ho, Instr.box, newVar, Go.newRow]
    · simpa using Holds.newRow w (ev F x).cells.toList t

/-! ### Calls of the program's functions -/
def Enters (P : Program) (f : FuncId) : Prop := ∀ (args : Array Value) (w : World), (callFunc f args).run P w = .ok (.enter f args) w
theorem Enters.of {P : Program} {f : FuncId} {fn : Func} (h : P.funcs[f]? = some fn) (h1 : (fn.name == "runtime.NumGoroutine") = false) (h2 : fn.body.isNone = false) : Enters P f := by
  intro args w
  simp only [callFunc, Sem.run_bind, run_program, Result.andThen_ok, h, h1, h2]
  rfl
/-- a function by its name, a method by its receiver -/
theorem G.call {c : Call} {f : FuncId} (he : Enters P f) (ho : o.op = .call c) (hc : c.callee = .value (.func f)) (hr : runs n ops F o) {d : Nat} (hd : o.dst = some d) (hn : Nat.blt d n = true) {args : List Value}
    {R : Ending → List Seg → Prop} (hf : FnS P W0 f args.toArray L R) (hargs : c.args.toList.map (ev F) = args)
    (k : ∀ e L', R e L' → match e with
      | .returned v => G P W0 n SQ ops rest (upd F d v) D L'
      | .panicked chain => SQ (.panic chain) F D L'
      | .outgrown => False) : G P W0 n SQ ops (o :: rest) F D L :=
  G.enter hr hd hn (fun w _ => by
    have hargs' : c.args.map (ev F) = args.toArray := by rw [← hargs]; apply Array.ext'; simp
    simp [execOp, ho, resolve, hc, Deferred.ofValue, ev, invoke, hargs', he args.toArray w]) hf k
/-- a function value -/
theorem G.callV {c : Call} {x : Operand} {f : FuncId} {first captured : Array Value} (he : Enters P f) (ho : o.op = .call c) (hc : c.callee = .value x) (hx : ev F x = .func (.func f) first captured) (hr : runs n ops F o) {d : Nat} (hd : o.dst = some d) (hn : Nat.blt d n = true)
    {args : List Value} {R : Ending → List Seg → Prop} (hf : FnS P W0 f args.toArray L R) (hargs : first.toList ++ c.args.toList.map (ev F) ++ captured.toList = args)
    (k : ∀ e L', R e L' → match e with
      | .returned v => G P W0 n SQ ops rest (upd F d v) D L'
      | .panicked chain => SQ (.panic chain) F D L'
      | .outgrown => False) : G P W0 n SQ ops (o :: rest) F D L :=
  G.enter hr hd hn (fun w _ => by
    simp only [execOp, ho, resolve, hc, Deferred.ofValue, hx, invoke, Sem.run_bind, Sem.run_pure, Result.andThen_ok]
    have hargs' : first ++ c.args.map (ev F) ++ captured = args.toArray := by rw [← hargs]; apply Array.ext'; simp
    rw [hargs']; exact he args.toArray w) hf k
end rules
end Go.SL
/-
  One rule for each operation of the model, over a heap that is told block by block (second part: slices: make, build, cut, append, copy; bytes and texts). No program in sight.
-/
namespace Go.SL
open Go Go.RowKit

/-! ### What is known of the list's worlds -/
section
variable {W0 w : World} {L L' : List Seg}
theorem Mem.sub (h : Mem W0 w L) (hs : L'.flatten.Sublist L.flatten) : Mem W0 w L' :=
  ⟨h.below, (hs.map _).nodup h.nodup, fun p hp => h.holds p (hs.subset hp)⟩
theorem Mem.tail {s : Seg} (h : Mem W0 w (s :: L)) : Mem W0 w L := h.sub (by simp)
theorem Mem.perm2 {s t : Seg} (h : Mem W0 w (s :: t :: L)) : Mem W0 w (t :: s :: L) := h.of_flat (by
  simp only [List.flatten_cons, ← List.append_assoc]
  exact List.Perm.append_right _ List.perm_append_comm)
/-- less is known of a row -/
theorem Mem.forget {b : Nat} {cs : List Value} {t : TypeId} {k : Nat} {u : Nat → SObj → List Seg} (h : Mem W0 w L) (ha : At L b (.row cs t k) u) (n : Nat) : Mem W0 w (u b (.row (cs.take n) t k)) :=
  h.change ha h.below (fun _ _ _ => rfl) (.inl rfl) (by
    obtain ⟨rest, fr, h1, h2, h3⟩ := (h.get ha).2
    exact ⟨cs.drop n ++ rest, fr, by rw [← List.append_assoc, List.take_append_drop]; exact h1, by rw [← List.append_assoc, List.take_append_drop]; exact h2, h3⟩)
end

/-- what a slice's cells read as, in every world that the list tells -/
def Rd (W0 : World) (L : List Seg) (a : Option Addr) (vs : List Value) : Prop :=
  vs = [] ∨ ∃ b off, a = some ⟨b, off, none⟩ ∧ ∀ w, Mem W0 w L → ∀ j, j < vs.length → w.cell? ⟨b, off + j, none⟩ = vs[j]?
section
variable {W0 : World} {L L' : List Seg} {a : Option Addr} {vs : List Value}
theorem Rd.nil : Rd W0 L a [] := .inl rfl
theorem Rd.cells (h : Rd W0 L a vs) : ∀ w, Mem W0 w L → ∀ j, j < vs.length → ∃ b off, a = some ⟨b, off, none⟩ ∧ w.cell? ⟨b, off + j, none⟩ = vs[j]? := by
  intro w hm j hj
  rcases h with rfl | ⟨b, off, rfl, hc⟩
  · simp at hj
  · exact ⟨b, off, rfl, hc w hm j hj⟩
theorem Rd.ne (h : Rd W0 L a vs) {m sz : Nat} (hl : vs.length = m * sz) (hs : 0 < sz) (ha : a = none) : m = 0 := by
  rcases h with rfl | ⟨b, off, rfl, _⟩
  · rcases Nat.eq_zero_or_pos m with h0 | h0
    · exact h0
    · have := Nat.mul_pos h0 hs; simp at hl; omega
  · cases ha
theorem Rd.some_ (h : Rd W0 L a vs) (hl : 0 < vs.length) : ∃ b off, a = some ⟨b, off, none⟩ ∧ ∀ w, Mem W0 w L → ∀ j, j < vs.length → w.cell? ⟨b, off + j, none⟩ = vs[j]? := by
  rcases h with rfl | h
  · simp at hl
  · exact h
theorem Rd.ne1 (h : Rd W0 L a vs) (ha : a = none) : vs.length = 0 := by
  rcases h with rfl | ⟨b, off, rfl, _⟩
  · rfl
  · cases ha
theorem Rd.mono (h : Rd W0 L a vs) (hs : ∀ w, Mem W0 w L' → Mem W0 w L) : Rd W0 L' a vs := by
  rcases h with rfl | ⟨b, off, rfl, hc⟩
  · exact .inl rfl
  · exact .inr ⟨b, off, rfl, fun w hm => hc w (hs w hm)⟩
theorem Rd.cons {s : Seg} (h : Rd W0 L a vs) : Rd W0 (s :: L) a vs := h.mono fun _ hm => hm.tail
theorem Rd.sub (h : Rd W0 L a vs) (hs : L.flatten.Sublist L'.flatten) : Rd W0 L' a vs := h.mono fun _ hm => hm.sub hs
theorem Rd.row {b off : Nat} {cs : List Value} {t : TypeId} {k : Nat} {u : Nat → SObj → List Seg} (ha : At L b (.row cs t k) u) (hv : ∀ j, j < vs.length → cs[off + j]? = vs[j]?) : Rd W0 L (some ⟨b, off, none⟩) vs := by
  refine .inr ⟨b, off, rfl, fun w hm j hj => ?_⟩
  have h2 : cs[off + j]? = some vs[j] := by rw [hv j hj, List.getElem?_eq_getElem hj]
  rw [(hm.get ha).2.cell h2, List.getElem?_eq_getElem hj]
theorem Rd.row0 {b : Nat} {cs : List Value} {t : TypeId} {k : Nat} {u : Nat → SObj → List Seg} (ha : At L b (.row cs t k) u) : Rd W0 L (some ⟨b, 0, none⟩) cs := Rd.row ha (fun j _ => by simp)
/-- what stood in memory at the start -/
theorem Rd.old {b off : Nat} (h : ∀ j, j < vs.length → W0.cell? ⟨b, off + j, none⟩ = vs[j]?) : Rd W0 L (some ⟨b, off, none⟩) vs := by
  refine .inr ⟨b, off, rfl, fun w hm j hj => ?_⟩
  have h1 := h j hj
  rw [List.getElem?_eq_getElem hj] at h1 ⊢
  exact hm.old_lt h1
def cutA (a : Option Addr) (cap l sz : Nat) : Option Addr := if cap = l then a else a.map (·.add (l * sz))
theorem Rd.cut {cap l sz n : Nat} (h : Rd W0 L a vs) (hv : vs.length = n * sz) (hn : n ≤ cap) : Rd W0 L (cutA a cap l sz) (vs.drop (l * sz)) := by
  rcases h with rfl | ⟨b, off, rfl, hc⟩
  · exact .inl (by simp)
  · by_cases hl : vs.length ≤ l * sz
    · exact .inl (List.drop_eq_nil_of_le hl)
    · have hne : cap ≠ l := by
        intro e
        have : n * sz ≤ l * sz := Nat.mul_le_mul_right _ (by omega)
        omega
      refine .inr ⟨b, off + l * sz, by rw [cutA, if_neg hne]; simp [add_mul_addr], fun w hm j hj => ?_⟩
      rw [List.length_drop] at hj
      rw [List.getElem?_drop, ← hc w hm (l * sz + j) (by omega), Nat.add_assoc]
theorem Rd.take {n : Nat} (h : Rd W0 L a vs) : Rd W0 L a (vs.take n) := by
  rcases h with rfl | ⟨b, off, rfl, hc⟩
  · exact .inl (by simp)
  · refine .inr ⟨b, off, rfl, fun w hm j hj => ?_⟩
    simp only [List.length_take] at hj
    rw [hc w hm j (by omega), List.getElem?_take, if_pos (by omega)]
end

def byteV (c : UInt8) : Value := .int .u8 (c.toNat : Int)
def bytesV (l : List UInt8) : List Value := l.map byteV
@[simp] theorem bytesV_length (l : List UInt8) : (bytesV l).length = l.length := by simp [bytesV]
theorem bytesV_at {l : List UInt8} {i : Nat} (h : i < l.length) : (bytesV l)[i]? = some (.int .u8 (l[i].toNat : Int)) := by simp [bytesV, byteV, h]
@[simp] theorem bytesV_append (l k : List UInt8) : bytesV (l ++ k) = bytesV l ++ bytesV k := by simp [bytesV]
@[simp] theorem bytesV_nil : bytesV [] = [] := rfl
theorem bytesV_drop (l : List UInt8) (n : Nat) : (bytesV l).drop n = bytesV (l.drop n) := by simp [bytesV]
theorem bytesV_take (l : List UInt8) (n : Nat) : (bytesV l).take n = bytesV (l.take n) := by simp [bytesV]
theorem bytesV_ok {l : List UInt8} : ∀ u ∈ bytesV l, cellsOk u = true := by
  intro u hu
  obtain ⟨c, _, rfl⟩ := List.mem_map.1 hu
  rfl

section
variable {P : Program} {w : World}
theorem run_firstCells {sz m c : Nat} {a : Option Addr} {vs : List Value} (hl : vs.length = m * sz) (h : ∀ j, j < vs.length → ∃ b off, a = some ⟨b, off, none⟩ ∧ w.cell? ⟨b, off + j, none⟩ = vs[j]?) (n : Nat) (hn : n = m) (hne : a = none → m = 0) :
    (Builtin.firstCells sz n (.slice a m c)).run P w = .ok vs.toArray w := by
  subst hn
  cases a with
  | none =>
    have : vs = [] := List.eq_nil_of_length_eq_zero (by rw [hl, hne rfl]; simp)
    subst this
    rfl
  | some x =>
    simp only [Builtin.firstCells]
    rw [← hl]
    refine run_loadCells_list w x vs fun j v hv => ?_
    have hj : j < vs.length := by
      rcases Nat.lt_or_ge j vs.length with h | h
      · exact h
      · rw [List.getElem?_eq_none h] at hv; cases hv
    obtain ⟨b, off, h1, h2⟩ := h j hj
    cases h1
    rw [add_mul_addr, h2, hv]
end

/-! ### Rows that grow -/
theorem Holds.grow {w : World} {b : Nat} {cs : List Value} {t : TypeId} {k : Nat} (h : Holds w b (.row cs t k)) (hk : cs.length < k) (v : Value) :
    (∃ old, w.cell? ⟨b, cs.length, none⟩ = some old) ∧ Holds (w.setCell ⟨b, cs.length, none⟩ v) b (.row (cs ++ [v]) t k) := by
  obtain ⟨rest, fr, h1, h2, h3⟩ := h
  simp only [List.length_append] at h2
  cases rest with
  | nil => simp at h2; omega
  | cons r rest =>
    refine ⟨⟨r, by simp only [World.cell?, h1]; simp⟩, rest, fr, ?_, by simp at h2 ⊢; omega, h3⟩
    simp only [World.setCell, Array.getElem?_modify, h1]
    simp
section
variable {P : Program} {W0 : World}
theorem Mem.push {w : World} {L : List Seg} {b : Nat} {cs : List Value} {t : TypeId} {k : Nat} (h : Mem W0 w ([(b, .row cs t k)] :: L)) (hk : cs.length < k) {v : Value} (hv : cellsOk v = true) :
    (store ⟨b, cs.length, none⟩ v).run P w = .ok () (w.setCell ⟨b, cs.length, none⟩ v) ∧ Mem W0 (w.setCell ⟨b, cs.length, none⟩ v) ([(b, .row (cs ++ [v]) t k)] :: L) := by
  obtain ⟨h0, h1⟩ := h.get At.here
  obtain ⟨⟨old, ho⟩, h2⟩ := h1.grow hk v
  exact ⟨run_store_cell hv ho (h1.unfrozen hk), h.change At.here (h.below.setCell (by simpa using h0) v) (fun j _ hj => Below.heap_setCell w _ v j (by simpa using hj)) (.inl rfl) h2⟩
theorem Mem.pushes {L : List Seg} {b : Nat} {t : TypeId} {k : Nat} : ∀ (vs cs : List Value) (w : World) (off i : Nat), Mem W0 w ([(b, .row cs t k)] :: L) → off + i = cs.length → cs.length + vs.length ≤ k → (∀ u ∈ vs, cellsOk u = true) →
    ∃ w', (storeCells ⟨b, off, none⟩ vs i).run P w = .ok () w' ∧ Mem W0 w' ([(b, .row (cs ++ vs) t k)] :: L)
  | [], cs, w, off, i, h, _, _, _ => ⟨w, rfl, by simpa using h⟩
  | v :: vs, cs, w, off, i, h, hi, hk, hv => by
    simp only [List.length_cons] at hk
    obtain ⟨h1, h2⟩ := Mem.push (P := P) h (by omega) (hv v (by simp))
    obtain ⟨w', h3, h4⟩ := Mem.pushes vs (cs ++ [v]) _ off (i + 1) h2 (by simp; omega) (by simp; omega) (fun u hu => hv u (by simp [hu]))
    refine ⟨w', ?_, by simpa using h4⟩
    simp only [storeCells, Sem.run_bind, add_mul_addr, hi, h1, Result.andThen_ok, h3]
/-- cells of a row, written over -/
theorem Mem.overs {b : Nat} {t : TypeId} {k : Nat} {u : Nat → SObj → List Seg} (hu : ∀ o, At (u b o) b o u) : ∀ (vs cs : List Value) (w : World) (off i : Nat), Mem W0 w (u b (.row cs t k)) → off + i + vs.length ≤ cs.length → (∀ x ∈ vs, cellsOk x = true) →
    ∃ w', (storeCells ⟨b, off, none⟩ vs i).run P w = .ok () w' ∧ Mem W0 w' (u b (.row (cs.take (off + i) ++ vs ++ cs.drop (off + i + vs.length)) t k))
  | [], cs, w, off, i, h, _, _ => ⟨w, rfl, by simpa using h⟩
  | v :: vs, cs, w, off, i, h, hk, hv => by
    simp only [List.length_cons] at hk
    have hb := (h.get (hu _)).2
    have hlt : off + i < cs.length := by omega
    have hk' : off + i < k := by
      obtain ⟨rest, fr, _, h2, _⟩ := hb
      simp only [List.length_append] at h2
      omega
    have h1 := run_store_cell (P := P) (hv v (by simp)) (hb.cell (List.getElem?_eq_getElem hlt)) (hb.unfrozen hk')
    have h2 := h.set (hu _) hlt v
    obtain ⟨w', h3, h4⟩ := Mem.overs hu vs (cs.set (off + i) v) _ off (i + 1) h2 (by simp; omega) (fun x hx => hv x (by simp [hx]))
    refine ⟨w', ?_, ?_⟩
    · simp only [storeCells, Sem.run_bind, add_mul_addr, h1, Result.andThen_ok, h3]
    · have e : (cs.set (off + i) v).take (off + (i + 1)) ++ vs ++ (cs.set (off + i) v).drop (off + (i + 1) + vs.length) = cs.take (off + i) ++ (v :: vs) ++ cs.drop (off + i + (vs.length + 1)) := by
        have e1 : (cs.set (off + i) v).take (off + (i + 1)) = cs.take (off + i) ++ [v] := by
          rw [← Nat.add_assoc, List.take_set, List.take_succ_eq_append_getElem hlt, List.set_append_right _ _ (by simp; omega)]
          have : off + i - (cs.take (off + i)).length = 0 := by simp; omega
          rw [this]; rfl
        have e2 : (cs.set (off + i) v).drop (off + (i + 1) + vs.length) = cs.drop (off + i + (vs.length + 1)) := by
          rw [List.drop_set_of_lt (by omega)]
          congr 1; omega
        rw [e1, e2]; simp
      simp only [List.length_cons]; rw [← e]; exact h4
end

/-- a slice of the call's own that reads as l elements: nil, or the head of a block of its own with unknown room behind -/
def OwnS (v : Value) (l : Nat) (cs : List Value) (t : TypeId) (sz : Nat) (seg : Seg) : Prop :=
  cs.length = l * sz ∧ ((v = .slice none 0 0 ∧ l = 0 ∧ seg = []) ∨ ∃ b c k, v = .slice (some ⟨b, 0, none⟩) l c ∧ seg = [(b, .row cs t k)] ∧ c * sz ≤ k ∧ l ≤ c)
theorem OwnS.nil (t : TypeId) (sz : Nat) : OwnS (.slice none 0 0) 0 [] t sz [] := ⟨by simp, .inl ⟨rfl, rfl, rfl⟩⟩
theorem OwnS.form {v : Value} {l : Nat} {cs : List Value} {t : TypeId} {sz : Nat} {seg : Seg} (h : OwnS v l cs t sz seg) : ∃ a c, v = .slice a l c ∧ ∀ W0 L, Rd W0 (seg :: L) a cs := by
  obtain ⟨h0, h | ⟨b, c, k, rfl, rfl, _⟩⟩ := h
  · obtain ⟨rfl, rfl, rfl⟩ := h
    have : cs = [] := List.eq_nil_of_length_eq_zero (by simpa using h0)
    subst this
    exact ⟨none, 0, rfl, fun _ _ => Rd.nil⟩
  · exact ⟨some ⟨b, 0, none⟩, c, rfl, fun _ _ => Rd.row0 At.here⟩

section rules
variable {P : Program} {W0 : World} {n : Nat} {SQ : SPost} {F : Nat → Value} {D : List Deferred} {L : List Seg} {ops : Array Oper} {rest : List Oper} {o : Oper}

/-- the heap's list in another order, or less of it -/
theorem G.less {L' : List Seg} (hs : ∀ w, Mem W0 w L → Mem W0 w L') (k : G P W0 n SQ ops rest F D L') : G P W0 n SQ ops rest F D L := fun a w h1 h2 hm => k a w h1 h2 (hs w hm)
theorem C.less {L' : List Seg} {c : Code} (hs : ∀ w, Mem W0 w L → Mem W0 w L') (k : C P W0 n SQ c F D L') : C P W0 n SQ c F D L := fun a w h1 h2 hm => k a w h1 h2 (hs w hm)

theorem zeros_eq (z : Value) (m : Nat) : (Array.range (m * z.cells.size)).map (fun i => z.cells[i % z.cells.size]!) = ((List.range (m * z.cells.size)).map fun i => z.cells[i % z.cells.size]!).toArray := by
  apply Array.ext'
  simp
theorem run_makeSlice {t e : TypeId} {sz by_ : Nat} {z : Value} (hu : P.underlying t = some (.slice e)) (hi : Inf P e sz by_ z) (hz : z.cells.size = sz) (kl kc : IntKind) (l c : Int) (h : 0 ≤ l ∧ l ≤ c ∧ by_ * c ≤ 281474976710656 ∧ c ≤ 9223372036854775807) (w : World) :
    (Instr.makeSlice t (.int kl l) (.int kc c)).run P w = .ok (.slice (some ⟨w.heap.size, 0, none⟩) l.toNat c.toNat) (w.alloc (.cells ((List.range (c.toNat * sz)).map fun i => z.cells[i % sz]!).toArray e)) := by
  obtain ⟨h1, h2, h3, h4⟩ := h
  obtain ⟨i, q1, q2, q3, q4⟩ := hi
  have wl : IntKind.i64.wrap l = l := wrap_i64 (by omega)
  have wc : IntKind.i64.wrap c = c := wrap_i64 (by omega)
  have hz' : ∀ w, (zeroValue e).run P w = .ok z w := fun w => by simp [zeroValue, typeInfo, q1, q4]
  have hti : ∀ w, (typeInfo e).run P w = .ok i w := fun w => by simp [typeInfo, q1]
  have hsz : ∀ w, (sizeOf e).run P w = .ok sz w := fun w => by simp [sizeOf, hti, q2]
  have c1 : ¬ c < 0 := by omega
  have c2 : ¬ l < 0 := by omega
  have c3 : ¬ c < l := by omega
  have c4 : ¬ 281474976710656 < (by_ : Int) * c := by omega
  simp only [Instr.makeSlice, Sem.run_bind, run_underlying hu, Result.andThen_ok, asInt, asIntOf, Sem.run_pure, hti, q3, wl, wc]
  have c5 : ¬ ((by_ : Int) * c > 2 ^ 48) := by
    have : (2 : Int) ^ 48 = 281474976710656 := by decide
    omega
  have c6 : ¬ (l > c) := by omega
  simp only [c1, c5, c2, c6, decide_false, Bool.or_false, Bool.false_eq_true, if_false]
  simp only [Sem.run_bind, run_askRoom, Result.andThen_ok, hsz]
  by_cases hn : c.toNat * sz = 0
  · simp only [hn, if_true, Sem.run_bind, Sem.run_pure, Result.andThen_ok, Go.newRow, run_newObj]
    simp [show Array.range 0 = #[] from rfl]
  · simp only [hn, if_false, Sem.run_bind, hz', Sem.run_pure, Result.andThen_ok, Go.newRow, run_newObj, World.alloc_eq]
    congr 3
    rw [hz]
    apply Array.ext'
    simp
def zeroRow (z : Value) (m sz : Nat) : List Value := (List.range (m * sz)).map fun i => z.cells[i % sz]!
@[simp] theorem zeroRow_length (z : Value) (m sz : Nat) : (zeroRow z m sz).length = m * sz := by simp [zeroRow]
theorem zeroRow_one {z : Value} (hz : cellsOk z = true) (m : Nat) : zeroRow z m 1 = List.replicate m z := by
  apply List.ext_getElem?
  intro i
  simp only [zeroRow, cells_of_ok hz, Nat.mul_one, Nat.mod_one]
  by_cases h : i < m
  · simp [h, List.getElem?_replicate]
  · simp [h, List.getElem?_replicate]
theorem G.makeSlice {t e : TypeId} {x y : Operand} {kl kc : IntKind} {l c : Int} {sz by_ : Nat} {z : Value} (ho : o.op = .makeSlice t x y) (hr : runs n ops F o) {d : Nat} (hd : o.dst = some d) (hn : Nat.blt d n = true)
    (hu : P.underlying t = some (.slice e)) (hi : Inf P e sz by_ z) (hz : z.cells.size = sz) (hx : ev F x = .int kl l) (hy : ev F y = .int kc c) (h : 0 ≤ l ∧ l ≤ c ∧ by_ * c ≤ 281474976710656 ∧ c ≤ 9223372036854775807)
    (k : ∀ b, G P W0 n SQ ops rest (upd F d (.slice (some ⟨b, 0, none⟩) l.toNat c.toNat)) D ([(b, .row (zeroRow z c.toNat sz) e (c.toNat * sz))] :: L)) : G P W0 n SQ ops (o :: rest) F D L :=
  G.eff hr hd hn fun w hm => by
    have hh := Holds.newRow w (zeroRow z c.toNat sz) e
    rw [zeroRow_length] at hh
    refine ⟨_, w.alloc (.cells (zeroRow z c.toNat sz).toArray e), _, ?_, hm.alloc _ hh, k w.heap.size⟩
    simp only [execOp, ho, hx, hy, Sem.run_bind, run_makeSlice hu hi hz kl kc l c h w, Result.andThen_ok, Sem.run_pure]
    rfl
/-- a slice's literal of single cells -/
theorem G.buildSlice {t e : TypeId} {m : Nat} {parts : Array (Nat × Operand)} {sz by_ : Nat} {z : Value} {cs : List Value} (ho : o.op = .buildSlice t m parts) (hr : runs n ops F o) {d : Nat} (hd : o.dst = some d) (hn : Nat.blt d n = true)
    (hu : P.underlying t = some (.slice e)) (hi : Inf P e sz by_ z) (hm0 : Nat.ble (m * sz) 16777216 = true)
    (hf : Instr.fill (fun i => some (i * sz, sz)) ((Array.range (m * sz)).map ((if m * sz = 0 then #[] else z.cells)[· % (if m * sz = 0 then #[] else z.cells).size]!)) (parts.map (fun (i, x) => (i, ev F x))).toList = some cs.toArray)
    (k : ∀ b, G P W0 n SQ ops rest (upd F d (.slice (some ⟨b, 0, none⟩) m m)) D ([(b, .row cs e cs.length)] :: L)) : G P W0 n SQ ops (o :: rest) F D L :=
  G.eff hr hd hn fun w hm => by
    have hz : ∀ w, (zeroValue e).run P w = .ok z w := fun w => hi.run_zero
    have hs : ∀ w, (sizeOf e).run P w = .ok sz w := fun w => hi.run_size
    have hle := Nat.le_of_ble_eq_true hm0
    have hnle : ¬ (m * sz > 2 ^ 24) := by have : (2 : Nat) ^ 24 = 16777216 := by decide
                                          omega
    refine ⟨_, _, _, ?_, hm.alloc _ (Holds.newRow w cs e), k w.heap.size⟩
    simp only [execOp, ho, Instr.buildSlice, Sem.run_bind, run_underlying hu, Result.andThen_ok, hs, hnle, if_false]
    by_cases h0 : m * sz = 0
    · simp only [h0, if_true] at hf
      simp only [h0, if_true, Sem.run_pure, Sem.run_bind, Result.andThen_ok, hf, Go.newRow, run_newObj, World.alloc_eq]
    · simp only [h0, if_false] at hf
      simp only [h0, if_false, Sem.run_pure, Sem.run_bind, hz, Result.andThen_ok, hf, Go.newRow, run_newObj, World.alloc_eq]

/-! ### Cuts -/
theorem G.sliceLH {t e : TypeId} {x lo up : Operand} {a : Option Addr} {len cap : Nat} {kl kh : IntKind} {l h : Int} {sz by_ : Nat} {z : Value} (ho : o.op = .slice t x (some lo) (some up) none) (hr : runs n ops F o) {d : Nat} (hd : o.dst = some d) (hn : Nat.blt d n = true)
    (hu : P.underlying t = some (.slice e)) (hi : Inf P e sz by_ z) (hx : ev F x = .slice a len cap) (hl : ev F lo = .int kl l) (hh : ev F up = .int kh h) (hb : 0 ≤ l ∧ l ≤ h ∧ h ≤ cap)
    (k : G P W0 n SQ ops rest (upd F d (.slice (cutA a cap l.toNat sz) (h.toNat - l.toNat) (cap - l.toNat))) D L) : G P W0 n SQ ops (o :: rest) F D L :=
  G.val _ hr hd hn (fun w _ => by
    have hs : ∀ w, (sizeOf e).run P w = .ok sz w := fun w => hi.run_size
    obtain ⟨h1, h2, h3⟩ := hb
    have h4 : 0 ≤ h := by omega
    have e1 : (h.toNat : Int) = h := by omega
    simp [execOp, ho, hx, hl, hh, Instr.sliceAt, Instr.slice, Instr.sliceBounds, run_underlying hu, run_sliceBound, hs, h1, h2, h3, h4, e1, cutA]) k
theorem G.sliceH {t e : TypeId} {x up : Operand} {a : Option Addr} {len cap : Nat} {kh : IntKind} {h : Int} {sz by_ : Nat} {z : Value} (ho : o.op = .slice t x none (some up) none) (hr : runs n ops F o) {d : Nat} (hd : o.dst = some d) (hn : Nat.blt d n = true)
    (hu : P.underlying t = some (.slice e)) (hi : Inf P e sz by_ z) (hx : ev F x = .slice a len cap) (hh : ev F up = .int kh h) (hb : 0 ≤ h ∧ h ≤ cap)
    (k : G P W0 n SQ ops rest (upd F d (.slice a h.toNat cap)) D L) : G P W0 n SQ ops (o :: rest) F D L :=
  G.val _ hr hd hn (fun w _ => by
    have hs : ∀ w, (sizeOf e).run P w = .ok sz w := fun w => hi.run_size
    obtain ⟨h1, h3⟩ := hb
    have e0 : (a.map fun x => x.add 0) = a := by cases a <;> simp [Addr.add]
    simp [execOp, ho, hx, hh, Instr.sliceAt, Instr.slice, Instr.sliceBounds, run_underlying hu, run_sliceBound, hs, h1, h3, e0]) k
theorem G.sliceL {t e : TypeId} {x lo : Operand} {a : Option Addr} {len cap : Nat} {kl : IntKind} {l : Int} {sz by_ : Nat} {z : Value} (ho : o.op = .slice t x (some lo) none none) (hr : runs n ops F o) {d : Nat} (hd : o.dst = some d) (hn : Nat.blt d n = true)
    (hu : P.underlying t = some (.slice e)) (hi : Inf P e sz by_ z) (hx : ev F x = .slice a len cap) (hl : ev F lo = .int kl l) (hb : 0 ≤ l ∧ l ≤ len)
    (k : G P W0 n SQ ops rest (upd F d (.slice (cutA a cap l.toNat sz) (len - l.toNat) (cap - l.toNat))) D L) : G P W0 n SQ ops (o :: rest) F D L :=
  G.val _ hr hd hn (fun w _ => by
    have hs : ∀ w, (sizeOf e).run P w = .ok sz w := fun w => hi.run_size
    obtain ⟨h1, h2⟩ := hb
    simp [execOp, ho, hx, hl, Instr.sliceAt, Instr.slice, Instr.sliceBounds, run_underlying hu, run_sliceBound, hs, h1, h2, cutA]) k
/-- a cut of an array by its address -/
theorem G.sliceArr {t e : TypeId} {x : Operand} {b off m : Nat} {sz by_ : Nat} {z : Value} (ho : o.op = .slice t x none none none) (hr : runs n ops F o) {d : Nat} (hd : o.dst = some d) (hn : Nat.blt d n = true)
    (hu : P.underlying t = some (.array m e)) (hi : Inf P e sz by_ z) (hx : ev F x = .pointer (some ⟨b, off, none⟩)) (_h : True)
    (k : G P W0 n SQ ops rest (upd F d (.slice (some ⟨b, off, none⟩) m m)) D L) : G P W0 n SQ ops (o :: rest) F D L :=
  G.val _ hr hd hn (fun w _ => by
    have hs : ∀ w, (sizeOf e).run P w = .ok sz w := fun w => hi.run_size
    simp [execOp, ho, hx, Instr.sliceAt, Instr.sureAddr, Instr.sliceBounds, run_underlying hu, hs, Addr.add]) k
theorem G.sliceArrL {t e : TypeId} {x lo : Operand} {b off m : Nat} {kl : IntKind} {l : Int} {sz by_ : Nat} {z : Value} (ho : o.op = .slice t x (some lo) none none) (hr : runs n ops F o) {d : Nat} (hd : o.dst = some d) (hn : Nat.blt d n = true)
    (hu : P.underlying t = some (.array m e)) (hi : Inf P e sz by_ z) (hx : ev F x = .pointer (some ⟨b, off, none⟩)) (hl : ev F lo = .int kl l) (hb : 0 ≤ l ∧ l < m)
    (k : G P W0 n SQ ops rest (upd F d (.slice (some ⟨b, off + l.toNat * sz, none⟩) (m - l.toNat) (m - l.toNat))) D L) : G P W0 n SQ ops (o :: rest) F D L :=
  G.val _ hr hd hn (fun w _ => by
    have hs : ∀ w, (sizeOf e).run P w = .ok sz w := fun w => hi.run_size
    obtain ⟨h1, h2⟩ := hb
    have h3 : l ≤ (m : Int) := by omega
    have h4 : ¬ m = l.toNat := by omega
    simp [execOp, ho, hx, hl, Instr.sliceAt, Instr.sureAddr, Instr.sliceBounds, run_underlying hu, run_sliceBound, hs, h1, h3, h4, add_mul_addr]) k
theorem G.sliceArrLH {t e : TypeId} {x lo up : Operand} {b off m : Nat} {kl kh : IntKind} {l h : Int} {sz by_ : Nat} {z : Value} (ho : o.op = .slice t x (some lo) (some up) none) (hr : runs n ops F o) {d : Nat} (hd : o.dst = some d) (hn : Nat.blt d n = true)
    (hu : P.underlying t = some (.array m e)) (hi : Inf P e sz by_ z) (hx : ev F x = .pointer (some ⟨b, off, none⟩)) (hl : ev F lo = .int kl l) (hh : ev F up = .int kh h) (hb : 0 ≤ l ∧ l ≤ h ∧ h ≤ m ∧ l < m)
    (k : G P W0 n SQ ops rest (upd F d (.slice (some ⟨b, off + l.toNat * sz, none⟩) (h.toNat - l.toNat) (m - l.toNat))) D L) : G P W0 n SQ ops (o :: rest) F D L :=
  G.val _ hr hd hn (fun w _ => by
    have hs : ∀ w, (sizeOf e).run P w = .ok sz w := fun w => hi.run_size
    obtain ⟨h1, h2, h3, h4⟩ := hb
    have h5 : 0 ≤ h := by omega
    have e1 : (h.toNat : Int) = h := by omega
    have h6 : ¬ m = l.toNat := by omega
    simp [execOp, ho, hx, hl, hh, Instr.sliceAt, Instr.sureAddr, Instr.sliceBounds, run_underlying hu, run_sliceBound, hs, h1, h2, h3, h5, e1, h6, add_mul_addr]) k
theorem G.sliceArrH {t e : TypeId} {x up : Operand} {b off m : Nat} {kh : IntKind} {h : Int} {sz by_ : Nat} {z : Value} (ho : o.op = .slice t x none (some up) none) (hr : runs n ops F o) {d : Nat} (hd : o.dst = some d) (hn : Nat.blt d n = true)
    (hu : P.underlying t = some (.array m e)) (hi : Inf P e sz by_ z) (hx : ev F x = .pointer (some ⟨b, off, none⟩)) (hh : ev F up = .int kh h) (hb : 0 ≤ h ∧ h ≤ m)
    (k : G P W0 n SQ ops rest (upd F d (.slice (some ⟨b, off, none⟩) h.toNat m)) D L) : G P W0 n SQ ops (o :: rest) F D L :=
  G.val _ hr hd hn (fun w _ => by
    have hs : ∀ w, (sizeOf e).run P w = .ok sz w := fun w => hi.run_size
    obtain ⟨h1, h3⟩ := hb
    simp [execOp, ho, hx, hh, Instr.sliceAt, Instr.sureAddr, Instr.sliceBounds, run_underlying hu, run_sliceBound, hs, h1, h3, Addr.add]) k

/-! ### append, copy -/
theorem run_append_in {t ty e t2 e2 : TypeId} {sz by_ : Nat} {z : Value} (hu : P.underlying t = some (.slice e)) (hu2 : P.underlying t2 = some (.slice e2)) (hi : Inf P e sz by_ z) {W0 w : World} {b l c m k : Nat} {x : Value} {cs vs : List Value}
    (hm : Mem W0 w ([(b, .row cs e k)] :: L)) (hcs : cs.length = l * sz) (hk : c * sz ≤ k) (hc : l + m ≤ c) (hvs : vs.length = m * sz) (hv : ∀ u ∈ vs, cellsOk u = true)
    (hlen : (Builtin.lenOf x).run P w = .ok m w) (hfc : (Builtin.firstCells sz m x).run P w = .ok vs.toArray w) :
    ∃ w', (Builtin.append_ #[t, t2] ty #[.slice (some ⟨b, 0, none⟩) l c, x]).run P w = .ok (.slice (some ⟨b, 0, none⟩) (l + m) c) w' ∧ Mem W0 w' ([(b, .row (cs ++ vs) e k)] :: L) := by
  have hs : ∀ w, (sizeOf e).run P w = .ok sz w := fun w => hi.run_size
  have hle : (l + m) * sz ≤ k := Nat.le_trans (Nat.mul_le_mul_right _ hc) hk
  obtain ⟨w', h1, h2⟩ := Mem.pushes (P := P) vs cs w (l * sz) 0 hm (by rw [hcs]; rfl) (by rw [hcs, hvs, ← Nat.add_mul]; exact hle) hv
  refine ⟨w', ?_, h2⟩
  simp [Builtin.append_, run_underlying hu, run_underlying hu2, hs, hlen, hfc, hc, add_mul_addr, h1]
theorem run_append_new {t ty e t2 e2 : TypeId} {sz by_ : Nat} {z : Value} (hu : P.underlying t = some (.slice e)) (hu2 : P.underlying t2 = some (.slice e2)) (hi : Inf P e sz by_ z) (hz : z.cells.size = sz) (hby : 0 < by_) {w : World} {a : Option Addr} {l c m : Nat} {x : Value} {cs vs : List Value}
    (hc : c < l + m) (hb : (l + m) * by_ ≤ 140737488355328) (hlen : (Builtin.lenOf x).run P w = .ok m w) (hfc : (Builtin.firstCells sz m x).run P w.drew = .ok vs.toArray w.drew)
    (hold : (Builtin.firstCells sz l (.slice a l c)).run P w.drew = .ok cs.toArray w.drew) :
    ∃ c', l + m ≤ c' ∧ (Builtin.append_ #[t, t2] ty #[.slice a l c, x]).run P w = .ok (.slice (some ⟨w.heap.size, 0, none⟩) (l + m) c') (w.drew.alloc (.cells (cs ++ vs ++ (Builtin.zeroCells z.cells (c' - (l + m))).toList).toArray e)) := by
  obtain ⟨i, q1, q2, q3, q4⟩ := hi
  have hs : ∀ w, (sizeOf e).run P w = .ok sz w := fun w => by simp [sizeOf, typeInfo, q1, q2]
  have hti : ∀ w, (typeInfo e).run P w = .ok i w := fun w => by simp [typeInfo, q1]
  have hz' : ∀ w, (zeroValue e).run P w = .ok z w := fun w => by simp [zeroValue, typeInfo, q1, q4]
  have hfit := growslice_fits hc hb
  refine ⟨grownCap w (l + m) c e, grownCap_ge w _ _ e, ?_⟩
  have h1 : ¬ l + m ≤ c := by omega
  have h2 : ¬ (2 ^ 48 < Builtin.nextslicecap (l + m) c * by_) := by
    have : (2 : Nat) ^ 48 = 281474976710656 := by decide
    omega
  have h3 : ¬ by_ = 0 := by omega
  simp [Builtin.append_, run_underlying hu, run_underlying hu2, hs, hti, hz', hlen, h1, q3, h2, h3, run_choose, Question.forced, run_askRoom, hold, hfc, Go.newRow, run_newObj, World.alloc_eq]
  refine ⟨rfl, ?_⟩
  congr 2
  apply Array.ext'
  simp [grownCap]
theorem Holds.spare (w : World) (cs rest : List Value) (t : TypeId) : Holds (w.alloc (.cells (cs ++ rest).toArray t)) w.heap.size (.row cs t (cs ++ rest).length) :=
  ⟨rest, (0, 0), by show (w.heap.push _)[w.heap.size]? = _; simp, rfl, .inl rfl⟩
theorem G.append {s x : Operand} {t t2 e e2 : TypeId} {a : Option Addr} {l m c sz by_ : Nat} {z v : Value} {cs vs : List Value} {seg : Seg} (hown : OwnS v l cs e sz seg)
    (ho : o.op = .call { callee := .builtin .append, args := #[s, x], argTypes := #[t, t2] }) (hr : runs n ops F o) {d : Nat} (hd : o.dst = some d) (hn : Nat.blt d n = true)
    (hu : P.underlying t = some (.slice e)) (hu2 : P.underlying t2 = some (.slice e2)) (hi : Inf P e sz by_ z) (hz : z.cells.size = sz) (hby : 0 < by_)
    (hs : ev F s = v) (hx : ev F x = .slice a m c) (hsz0 : 0 < sz) (hrd : Rd W0 (seg :: L) a vs) (hvs : vs.length = m * sz) (hv : ∀ u ∈ vs, cellsOk u = true) (hb : (l + m) * by_ ≤ 140737488355328)
    (k : ∀ v' seg', OwnS v' (l + m) (cs ++ vs) e sz seg' → G P W0 n SQ ops rest (upd F d v') D (seg' :: L)) : G P W0 n SQ ops (o :: rest) F D (seg :: L) :=
  G.eff hr hd hn fun w hm => by
    have hne := hrd.ne hvs hsz0
    obtain ⟨h0, h | ⟨b, c0, kk, rfl, rfl, h2, h3⟩⟩ := hown
    · obtain ⟨rfl, rfl, rfl⟩ := h
      have hcs : cs = [] := List.eq_nil_of_length_eq_zero (by simpa using h0)
      subst hcs
      by_cases hm0 : m = 0
      · subst hm0
        have hvs0 : vs = [] := List.eq_nil_of_length_eq_zero (by simpa using hvs)
        subst hvs0
        refine ⟨.slice none 0 0, w, _, ?_, hm, k _ [] ⟨by simp, .inl ⟨rfl, rfl, rfl⟩⟩⟩
        have hsz : ∀ w, (sizeOf e).run P w = .ok sz w := fun w => hi.run_size
        have hf := run_firstCells (P := P) (w := w) (c := c) hvs (hrd.cells w hm) 0 rfl hne
        simp [execOp, ho, resolve, invoke, builtin, hs, hx, Builtin.append_, run_underlying hu, run_underlying hu2, hsz, Builtin.lenOf, hf]
      · obtain ⟨c', hc', hrun⟩ := run_append_new (P := P) (ty := o.type) hu hu2 hi hz hby (w := w) (a := none) (l := 0) (c := 0) (m := m) (x := .slice a m c) (cs := []) (vs := vs) (by omega) hb rfl
          (run_firstCells hvs (hrd.cells w.drew hm.drew) m rfl hne) rfl
        simp only [List.nil_append, Nat.zero_add] at hrun
        refine ⟨_, _, _, ?_, hm.tail.drew.alloc _ (Holds.spare w.drew vs (Builtin.zeroCells z.cells (c' - m)).toList e), k _ _ ⟨by simpa using hvs, .inr ⟨_, c', _, rfl, rfl, ?_, by omega⟩⟩⟩
        · simp only [execOp, ho, resolve, invoke, builtin, Sem.run_bind, Sem.run_pure, Result.andThen_ok, List.map_toArray, List.map_cons, List.map_nil, hs, hx, hrun, Nat.zero_add]
          rfl
        · simp only [List.nil_append, List.length_append, hvs, Array.length_toList]
          have : (Builtin.zeroCells z.cells (c' - m)).size = (c' - m) * sz := by simp [Builtin.zeroCells, hz]
          rw [this, ← Nat.add_mul]
          exact Nat.mul_le_mul_right _ (by omega)
    · by_cases hcap : l + m ≤ c0
      · obtain ⟨w', h4, h5⟩ := run_append_in (P := P) (ty := o.type) hu hu2 hi hm h0 h2 hcap hvs hv (x := .slice a m c) rfl (run_firstCells hvs (hrd.cells w hm) m rfl hne)
        refine ⟨_, w', _, ?_, h5, k _ _ ⟨by simp [h0, hvs, Nat.add_mul], .inr ⟨b, c0, kk, rfl, rfl, h2, hcap⟩⟩⟩
        simp only [execOp, ho, resolve, invoke, builtin, Sem.run_bind, Sem.run_pure, Result.andThen_ok, List.map_toArray, List.map_cons, List.map_nil, hs, hx, h4]
      · obtain ⟨c', hc', hrun⟩ := run_append_new (P := P) (ty := o.type) hu hu2 hi hz hby (w := w) (a := some ⟨b, 0, none⟩) (l := l) (c := c0) (m := m) (x := .slice a m c) (cs := cs) (vs := vs) (by omega) hb rfl
          (run_firstCells hvs (hrd.cells w.drew hm.drew) m rfl hne) (run_firstCells h0 ((Rd.row0 At.here).cells w.drew hm.drew) l rfl (fun h => by cases h))
        have hm' := (hm.tail.drew).alloc _ (Holds.spare w.drew (cs ++ vs) (Builtin.zeroCells z.cells (c' - (l + m))).toList e)
        refine ⟨_, _, _, ?_, hm', k _ _ ⟨by simp [h0, hvs, Nat.add_mul], .inr ⟨_, c', _, rfl, rfl, ?_, hc'⟩⟩⟩
        · simp only [execOp, ho, resolve, invoke, builtin, Sem.run_bind, Sem.run_pure, Result.andThen_ok, List.map_toArray, List.map_cons, List.map_nil, hs, hx, hrun]
          rfl
        · simp only [List.length_append, hvs, h0, Array.length_toList]
          have : (Builtin.zeroCells z.cells (c' - (l + m))).size = (c' - (l + m)) * sz := by simp [Builtin.zeroCells, hz]
          rw [this, ← Nat.add_mul, ← Nat.add_mul]
          exact Nat.mul_le_mul_right _ (by omega)
end rules
end Go.SL
/-
  One rule for each operation of the model, over a heap that is told block by block (third part: texts, equality, copy, conversions, structs by value). No program in sight.
-/
namespace Go.SL
open Go Go.RowKit

def strB (l : List UInt8) : ByteArray := ⟨l.toArray⟩
@[simp] theorem strB_size (l : List UInt8) : (strB l).size = l.length := by simp [strB, ByteArray.size]
theorem toList_strB (l : List UInt8) : (strB l).toList = l := by rw [ByteArray.toList_eq]; simp [strB]
theorem strB_toList (s : ByteArray) : strB s.toList = s := by
  rw [ByteArray.toList_eq]
  cases s
  simp [strB]
theorem str_eq (a b : ByteArray) : (a.toList == b.toList) = decide (a = b) := by
  by_cases h : a = b
  · subst h; simp
  · have : a.toList ≠ b.toList := fun e => h (by rw [← strB_toList a, ← strB_toList b, e])
    simp [h, this]
theorem strB_inj {a b : List UInt8} : strB a = strB b ↔ a = b := ⟨fun h => by rw [← toList_strB a, ← toList_strB b, h], fun h => by rw [h]⟩
theorem strB_append (a b : List UInt8) : strB a ++ strB b = strB (a ++ b) := by
  simp [strB, ByteArray.append_eq, ByteArray.ext_iff]

section rules
variable {P : Program} {W0 : World} {n : Nat} {SQ : SPost} {F : Nat → Value} {D : List Deferred} {L : List Seg} {ops : Array Oper} {rest : List Oper} {o : Oper}

/-! ### Equality -/
theorem eqGuard_plain {op : BinOp} {t : TypeId} {x y : Operand} {a b : Value} (h1 : ∀ u, a ≠ .agg u) (h2 : a ≠ .nilIface) (w : World) : (eqGuard op t x y a b).run P w = .ok () w := by
  unfold eqGuard
  cases a <;> first | exact absurd rfl h2 | exact absurd rfl (h1 _) | (cases op <;> rfl)
theorem G.strEq {t yt : TypeId} {x y : Operand} {a b : ByteArray} (ho : o.op = .binOp .eql t x y yt) (hr : runs n ops F o) {d : Nat} (hd : o.dst = some d) (hn : Nat.blt d n = true) (hx : ev F x = .string a) (hy : ev F y = .string b)
    (k : G P W0 n SQ ops rest (upd F d (.bool (decide (a = b)))) D L) : G P W0 n SQ ops (o :: rest) F D L :=
  G.val _ hr hd hn (fun w _ => by simp [execOp, ho, hx, hy, eqGuard_plain, binOp, Op.stringOp, str_eq]) k
theorem G.strNe {t yt : TypeId} {x y : Operand} {a b : ByteArray} (ho : o.op = .binOp .neq t x y yt) (hr : runs n ops F o) {d : Nat} (hd : o.dst = some d) (hn : Nat.blt d n = true) (hx : ev F x = .string a) (hy : ev F y = .string b)
    (k : G P W0 n SQ ops rest (upd F d (.bool (decide (¬ a = b)))) D L) : G P W0 n SQ ops (o :: rest) F D L :=
  G.val _ hr hd hn (fun w _ => by simp [execOp, ho, hx, hy, eqGuard_plain, binOp, Op.stringOp, str_eq]) k
theorem G.strAdd {t yt : TypeId} {x y : Operand} {a b : ByteArray} (ho : o.op = .binOp .add t x y yt) (hr : runs n ops F o) {d : Nat} (hd : o.dst = some d) (hn : Nat.blt d n = true) (hb : a.size + b.size ≤ 9223372036854775807) (hx : ev F x = .string a) (hy : ev F y = .string b)
    (k : G P W0 n SQ ops rest (upd F d (.string (a ++ b))) D L) : G P W0 n SQ ops (o :: rest) F D L :=
  G.val _ hr hd hn (fun w _ => by
    have h : ¬ (((a.size + b.size : Nat) : Int) > IntKind.i64.max) := by
      have : IntKind.i64.max = 9223372036854775807 := by decide
      omega
    simp only [execOp, ho, hx, hy, eqGuard_plain, binOp, Op.stringOp, Sem.run_bind, h, if_false]
    rw [eqGuard_ne (by decide) (by decide)]
    rfl) k
theorem G.boolEq {t yt : TypeId} {x y : Operand} {a b : Bool} (ho : o.op = .binOp .eql t x y yt) (hr : runs n ops F o) {d : Nat} (hd : o.dst = some d) (hn : Nat.blt d n = true) (hu : P.underlying t = some .bool) (hx : ev F x = .bool a) (hy : ev F y = .bool b)
    (k : G P W0 n SQ ops rest (upd F d (.bool (a == b))) D L) : G P W0 n SQ ops (o :: rest) F D L :=
  G.val _ hr hd hn (fun w _ => by simp [execOp, ho, hx, hy, eqGuard_plain, binOp, run_equal_bool, hu]) k
theorem G.boolNe {t yt : TypeId} {x y : Operand} {a b : Bool} (ho : o.op = .binOp .neq t x y yt) (hr : runs n ops F o) {d : Nat} (hd : o.dst = some d) (hn : Nat.blt d n = true) (hu : P.underlying t = some .bool) (hx : ev F x = .bool a) (hy : ev F y = .bool b)
    (k : G P W0 n SQ ops rest (upd F d (.bool (!(a == b)))) D L) : G P W0 n SQ ops (o :: rest) F D L :=
  G.val _ hr hd hn (fun w _ => by simp [execOp, ho, hx, hy, eqGuard_plain, binOp, run_equal_bool, hu]) k
theorem run_ptr_nil {t e : TypeId} (hu : P.underlying t = some (.pointer e)) (p : Option Addr) (w : World) : (Op.equal t (.pointer p) (.pointer none)).run P w = .ok p.isNone w := by
  have h : ∀ d : Nat, (Op.equalIn (d + 1) t (.pointer p) (.pointer none)).run P w = .ok p.isNone w := fun d => by cases p <;> simp [Op.equalIn, run_underlying hu]
  exact h 9999
theorem run_slice_nil {t e : TypeId} (hu : P.underlying t = some (.slice e)) (a : Option Addr) (l c : Nat) (w : World) : (Op.equal t (.slice a l c) (.slice none 0 0)).run P w = .ok a.isNone w := by
  have h : ∀ d : Nat, (Op.equalIn (d + 1) t (.slice a l c) (.slice none 0 0)).run P w = .ok a.isNone w := fun d => by cases a <;> simp [Op.equalIn, run_underlying hu]
  exact h 9999
theorem G.ptrEq {t yt e : TypeId} {x y : Operand} {p : Option Addr} (ho : o.op = .binOp .eql t x y yt) (hr : runs n ops F o) {d : Nat} (hd : o.dst = some d) (hn : Nat.blt d n = true) (hu : P.underlying t = some (.pointer e)) (hx : ev F x = .pointer p) (hy : ev F y = .pointer none)
    (k : G P W0 n SQ ops rest (upd F d (.bool p.isNone)) D L) : G P W0 n SQ ops (o :: rest) F D L :=
  G.val _ hr hd hn (fun w _ => by simp [execOp, ho, hx, hy, eqGuard_plain, binOp, run_ptr_nil hu]) k
theorem G.ptrNe {t yt e : TypeId} {x y : Operand} {p : Option Addr} (ho : o.op = .binOp .neq t x y yt) (hr : runs n ops F o) {d : Nat} (hd : o.dst = some d) (hn : Nat.blt d n = true) (hu : P.underlying t = some (.pointer e)) (hx : ev F x = .pointer p) (hy : ev F y = .pointer none)
    (k : G P W0 n SQ ops rest (upd F d (.bool !p.isNone)) D L) : G P W0 n SQ ops (o :: rest) F D L :=
  G.val _ hr hd hn (fun w _ => by simp [execOp, ho, hx, hy, eqGuard_plain, binOp, run_ptr_nil hu]) k
theorem G.slEq {t yt e : TypeId} {x y : Operand} {a : Option Addr} {l c : Nat} (ho : o.op = .binOp .eql t x y yt) (hr : runs n ops F o) {d : Nat} (hd : o.dst = some d) (hn : Nat.blt d n = true) (hu : P.underlying t = some (.slice e)) (hx : ev F x = .slice a l c) (hy : ev F y = .slice none 0 0)
    (k : G P W0 n SQ ops rest (upd F d (.bool a.isNone)) D L) : G P W0 n SQ ops (o :: rest) F D L :=
  G.val _ hr hd hn (fun w _ => by simp [execOp, ho, hx, hy, eqGuard_plain, binOp, run_slice_nil hu]) k
theorem G.slNe {t yt e : TypeId} {x y : Operand} {a : Option Addr} {l c : Nat} (ho : o.op = .binOp .neq t x y yt) (hr : runs n ops F o) {d : Nat} (hd : o.dst = some d) (hn : Nat.blt d n = true) (hu : P.underlying t = some (.slice e)) (hx : ev F x = .slice a l c) (hy : ev F y = .slice none 0 0)
    (k : G P W0 n SQ ops rest (upd F d (.bool !a.isNone)) D L) : G P W0 n SQ ops (o :: rest) F D L :=
  G.val _ hr hd hn (fun w _ => by simp [execOp, ho, hx, hy, eqGuard_plain, binOp, run_slice_nil hu]) k
theorem run_iface_nil {t : TypeId} {ms : Array (String × TypeId)} (hu : P.underlying t = some (.interface ms)) (u : TypeId) (v : Value) (w : World) : (Op.equal t (.iface u v) .nilIface).run P w = .ok false w := by
  have h : ∀ d : Nat, (Op.equalIn (d + 1) t (.iface u v) .nilIface).run P w = .ok false w := fun d => by simp [Op.equalIn, run_underlying hu]
  exact h 9999
theorem run_nil_nil {t : TypeId} {ms : Array (String × TypeId)} (hu : P.underlying t = some (.interface ms)) (w : World) : (Op.equal t .nilIface .nilIface).run P w = .ok true w := by
  have h : ∀ d : Nat, (Op.equalIn (d + 1) t .nilIface .nilIface).run P w = .ok true w := fun d => by simp [Op.equalIn, run_underlying hu]
  exact h 9999
theorem G.ifEq {t yt u : TypeId} {ms : Array (String × TypeId)} {x y : Operand} {v : Value} (ho : o.op = .binOp .eql t x y yt) (hr : runs n ops F o) {d : Nat} (hd : o.dst = some d) (hn : Nat.blt d n = true) (hu : P.underlying t = some (.interface ms)) (hx : ev F x = .iface u v) (hy : ev F y = .nilIface)
    (k : G P W0 n SQ ops rest (upd F d (.bool false)) D L) : G P W0 n SQ ops (o :: rest) F D L :=
  G.val _ hr hd hn (fun w _ => by simp [execOp, ho, hx, hy, eqGuard_plain, binOp, run_iface_nil hu]) k
theorem G.ifNe {t yt u : TypeId} {ms : Array (String × TypeId)} {x y : Operand} {v : Value} (ho : o.op = .binOp .neq t x y yt) (hr : runs n ops F o) {d : Nat} (hd : o.dst = some d) (hn : Nat.blt d n = true) (hu : P.underlying t = some (.interface ms)) (hx : ev F x = .iface u v) (hy : ev F y = .nilIface)
    (k : G P W0 n SQ ops rest (upd F d (.bool true)) D L) : G P W0 n SQ ops (o :: rest) F D L :=
  G.val _ hr hd hn (fun w _ => by simp [execOp, ho, hx, hy, eqGuard_plain, binOp, run_iface_nil hu]) k
/-- nil held against nil: one of the two is written as nil -/
theorem G.ifNil {t yt : TypeId} {ms : Array (String × TypeId)} {x : Operand} (ho : o.op = .binOp .eql t x (.const .nilIface) yt) (hr : runs n ops F o) {d : Nat} (hd : o.dst = some d) (hn : Nat.blt d n = true) (hu : P.underlying t = some (.interface ms)) (hx : ev F x = .nilIface)
    (k : G P W0 n SQ ops rest (upd F d (.bool true)) D L) : G P W0 n SQ ops (o :: rest) F D L :=
  G.val _ hr hd hn (fun w _ => by
    have h : (eqGuard .eql t x (.const .nilIface) .nilIface .nilIface).run P w = .ok () w := by
      unfold eqGuard
      simp
    have he : ev F (.const .nilIface) = .nilIface := rfl
    simp [execOp, ho, hx, he, h, binOp, run_nil_nil hu]) k

/-! ### New variables -/
theorem G.allocC {t : TypeId} {sz by_ : Nat} {z : Value} {cs : List Value} (ho : o.op = .alloc t) (hr : runs n ops F o) {d : Nat} (hd : o.dst = some d) (hn : Nat.blt d n = true) (hi : Inf P t sz by_ z) (hcs : z.cells.toList = cs)
    (k : ∀ b, G P W0 n SQ ops rest (upd F d (.pointer (some ⟨b, 0, none⟩))) D ([(b, .row cs t cs.length)] :: L)) : G P W0 n SQ ops (o :: rest) F D L := by
  subst hcs
  exact G.alloc ho hr hd hn hi k
theorem G.boxC {t : TypeId} {x : Operand} {v : Value} {cs : List Value} (ho : o.op = .box t x) (hr : runs n ops F o) {d : Nat} (hd : o.dst = some d) (hn : Nat.blt d n = true) (hx : ev F x = v) (hcs : v.cells.toList = cs)
    (k : ∀ b, G P W0 n SQ ops rest (upd F d (.pointer (some ⟨b, 0, none⟩))) D ([(b, .row cs t cs.length)] :: L)) : G P W0 n SQ ops (o :: rest) F D L := by
  subst hcs
  subst hx
  exact G.box ho hr hd hn k
theorem G.boxI {t : TypeId} {x : Operand} {kd : IntKind} {a : Int} (ho : o.op = .box t x) (hr : runs n ops F o) {d : Nat} (hd : o.dst = some d) (hn : Nat.blt d n = true) (hx : ev F x = .int kd a)
    (k : ∀ b, G P W0 n SQ ops rest (upd F d (.pointer (some ⟨b, 0, none⟩))) D ([(b, .row [.int kd a] t 1)] :: L)) : G P W0 n SQ ops (o :: rest) F D L := G.boxC ho hr hd hn hx rfl k
theorem G.boxB {t : TypeId} {x : Operand} {a : Bool} (ho : o.op = .box t x) (hr : runs n ops F o) {d : Nat} (hd : o.dst = some d) (hn : Nat.blt d n = true) (hx : ev F x = .bool a)
    (k : ∀ b, G P W0 n SQ ops rest (upd F d (.pointer (some ⟨b, 0, none⟩))) D ([(b, .row [.bool a] t 1)] :: L)) : G P W0 n SQ ops (o :: rest) F D L := G.boxC ho hr hd hn hx rfl k
theorem G.boxS {t : TypeId} {x : Operand} {a : Option Addr} {l c : Nat} (ho : o.op = .box t x) (hr : runs n ops F o) {d : Nat} (hd : o.dst = some d) (hn : Nat.blt d n = true) (hx : ev F x = .slice a l c)
    (k : ∀ b, G P W0 n SQ ops rest (upd F d (.pointer (some ⟨b, 0, none⟩))) D ([(b, .row [.slice a l c] t 1)] :: L)) : G P W0 n SQ ops (o :: rest) F D L := G.boxC ho hr hd hn hx rfl k
theorem G.boxP {t : TypeId} {x : Operand} {a : Option Addr} (ho : o.op = .box t x) (hr : runs n ops F o) {d : Nat} (hd : o.dst = some d) (hn : Nat.blt d n = true) (hx : ev F x = .pointer a)
    (k : ∀ b, G P W0 n SQ ops rest (upd F d (.pointer (some ⟨b, 0, none⟩))) D ([(b, .row [.pointer a] t 1)] :: L)) : G P W0 n SQ ops (o :: rest) F D L := G.boxC ho hr hd hn hx rfl k
theorem G.boxT {t : TypeId} {x : Operand} {s : ByteArray} (ho : o.op = .box t x) (hr : runs n ops F o) {d : Nat} (hd : o.dst = some d) (hn : Nat.blt d n = true) (hx : ev F x = .string s)
    (k : ∀ b, G P W0 n SQ ops rest (upd F d (.pointer (some ⟨b, 0, none⟩))) D ([(b, .row [.string s] t 1)] :: L)) : G P W0 n SQ ops (o :: rest) F D L := G.boxC ho hr hd hn hx rfl k
theorem G.boxF {t : TypeId} {x : Operand} {f : Fn} {vs us : Array Value} (ho : o.op = .box t x) (hr : runs n ops F o) {d : Nat} (hd : o.dst = some d) (hn : Nat.blt d n = true) (hx : ev F x = .func f vs us)
    (k : ∀ b, G P W0 n SQ ops rest (upd F d (.pointer (some ⟨b, 0, none⟩))) D ([(b, .row [.func f vs us] t 1)] :: L)) : G P W0 n SQ ops (o :: rest) F D L := G.boxC ho hr hd hn hx rfl k
theorem G.boxW {t u : TypeId} {x : Operand} {v : Value} (ho : o.op = .box t x) (hr : runs n ops F o) {d : Nat} (hd : o.dst = some d) (hn : Nat.blt d n = true) (hx : ev F x = .iface u v)
    (k : ∀ b, G P W0 n SQ ops rest (upd F d (.pointer (some ⟨b, 0, none⟩))) D ([(b, .row [.iface u v] t 1)] :: L)) : G P W0 n SQ ops (o :: rest) F D L := G.boxC ho hr hd hn hx rfl k
theorem G.boxM {t : TypeId} {x : Operand} {r : Option Nat} (ho : o.op = .box t x) (hr : runs n ops F o) {d : Nat} (hd : o.dst = some d) (hn : Nat.blt d n = true) (hx : ev F x = .map r)
    (k : ∀ b, G P W0 n SQ ops rest (upd F d (.pointer (some ⟨b, 0, none⟩))) D ([(b, .row [.map r] t 1)] :: L)) : G P W0 n SQ ops (o :: rest) F D L := G.boxC ho hr hd hn hx rfl k
theorem G.boxG {t : TypeId} {x : Operand} {cs : List Value} (ho : o.op = .box t x) (hr : runs n ops F o) {d : Nat} (hd : o.dst = some d) (hn : Nat.blt d n = true) (hx : ev F x = .agg cs.toArray)
    (k : ∀ b, G P W0 n SQ ops rest (upd F d (.pointer (some ⟨b, 0, none⟩))) D ([(b, .row cs t cs.length)] :: L)) : G P W0 n SQ ops (o :: rest) F D L := G.boxC ho hr hd hn hx rfl k

/-! ### Structs and arrays by value -/
theorem run_loadVar_agg {t : TypeId} {td : TypeDesc} {sz by_ : Nat} {z : Value} (hu : P.underlying t = some td) (hs : scalar td = false) (hi : Inf P t sz by_ z) {w : World} {b off : Nat} {vs : List Value} (hl : vs.length = sz)
    (h : ∀ j v, vs[j]? = some v → w.cell? ⟨b, off + j, none⟩ = some v) : (loadVar t ⟨b, off, none⟩).run P w = .ok (.agg vs.toArray) w := by
  have ha : ∀ w, (isAgg t).run P w = .ok true w := run_isAgg_yes hu hs
  have hz : ∀ w, (sizeOf t).run P w = .ok sz w := fun w => hi.run_size
  subst hl
  have hc := run_loadCells_list (P := P) w ⟨b, off, none⟩ vs (fun j v hv => by rw [add_mul_addr]; exact h j v hv)
  simp [loadVar, ha, hz, hc]
theorem G.loadAgg {t : TypeId} {x : Operand} {td : TypeDesc} {b off sz by_ : Nat} {z : Value} (vs : List Value) (ho : o.op = .load t x) (hr : runs n ops F o) {d : Nat} (hd : o.dst = some d) (hn : Nat.blt d n = true) (hu : P.underlying t = some td) (hs : scalar td = false) (hi : Inf P t sz by_ z)
    (hl : vs.length = sz) (hx : ev F x = .pointer (some ⟨b, off, none⟩)) (h : ∀ w, Mem W0 w L → ∀ j v, vs[j]? = some v → w.cell? ⟨b, off + j, none⟩ = some v) (k : G P W0 n SQ ops rest (upd F d (.agg vs.toArray)) D L) : G P W0 n SQ ops (o :: rest) F D L :=
  G.val _ hr hd hn (fun w hm => by
    simp only [execOp, ho, hx, Instr.loadAt, Instr.sureAddr, Sem.run_bind, Sem.run_pure, Result.andThen_ok, run_loadVar_agg hu hs hi hl (h w hm)]) k
theorem agg_of_row {w : World} {L : List Seg} {b off : Nat} {cs vs : List Value} {t : TypeId} {kk : Nat} {u : Nat → SObj → List Seg} (hm : Mem W0 w L) (ha : At L b (.row cs t kk) u) (hv : ∀ j v, vs[j]? = some v → cs[off + j]? = some v) : ∀ j v, vs[j]? = some v → w.cell? ⟨b, off + j, none⟩ = some v :=
  fun j v h => (hm.get ha).2.cell (hv j v h)
/-- a struct or an array written to its variable -/
theorem G.storeAgg {t : TypeId} {x y : Operand} {b off : Nat} {cs vs : List Value} {e : TypeId} {kk sz by_ : Nat} {z : Value} {u : Nat → SObj → List Seg} (hau : ∀ o', At (u b o') b o' u) (heq : u b (.row cs e kk) = L) (ho : o.op = .store t x y) (hr : runs n ops F o) (hd : o.dst = none)
    (hi : Inf P t sz by_ z) (hx : ev F x = .pointer (some ⟨b, off, none⟩)) (hy : ev F y = .agg vs.toArray) (hl : vs.length = sz) (hok : ∀ v ∈ vs, cellsOk v = true) (hlt : off + vs.length ≤ cs.length)
    (k : G P W0 n SQ ops rest F D (u b (.row (cs.take off ++ vs ++ cs.drop (off + vs.length)) e kk))) : G P W0 n SQ ops (o :: rest) F D L :=
  G.effSkip hr hd fun w hm => by
    subst heq
    have hsz : ∀ w, (sizeOf t).run P w = .ok sz w := fun w => hi.run_size
    obtain ⟨w', h1, h2⟩ := Mem.overs (P := P) hau vs cs w off 0 hm (by simpa using hlt) hok
    refine ⟨w', _, ?_, h2, k⟩
    simp [execOp, ho, hx, hy, Instr.storeAt, Instr.sureAddr, storeVar, Value.cells, hsz, hl, h1]
theorem G.build {t : TypeId} {parts : Array (Nat × Operand)} {fs : Array Field} {sz by_ : Nat} {z : Value} {cs : List Value} (ho : o.op = .build t parts) (hr : runs n ops F o) {d : Nat} (hd : o.dst = some d) (hn : Nat.blt d n = true) (hu : P.underlying t = some (.struct fs)) (hi : Inf P t sz by_ z)
    (places : Array (Nat × Nat)) (hp : ∀ w, (fs.mapM (m := Sem) fun f => do pure (f.offset, ← sizeOf f.type)).run P w = .ok places w)
    (hf : Instr.fill (places[·]?) z.cells (parts.map (fun (i, x) => (i, ev F x))).toList = some cs.toArray)
    (k : G P W0 n SQ ops rest (upd F d (.agg cs.toArray)) D L) : G P W0 n SQ ops (o :: rest) F D L :=
  G.val _ hr hd hn (fun w _ => by
    have hz : ∀ w, (zeroValue t).run P w = .ok z w := fun w => hi.run_zero
    simp only [execOp, ho, Instr.build, Sem.run_bind, hz, Result.andThen_ok, run_underlying hu, hp, hf, Sem.run_pure]) k
theorem G.field {t : TypeId} {x : Operand} {i : Nat} {fs : Array Field} {f : Field} {td : TypeDesc} {cs : Array Value} {v : Value} (ho : o.op = .field t x i) (hr : runs n ops F o) {d : Nat} (hd : o.dst = some d) (hn : Nat.blt d n = true) (hu : P.underlying t = some (.struct fs)) (hf : fs[i]? = some f)
    (huf : P.underlying f.type = some td) (hs : scalar td = true) (hx : ev F x = .agg cs) (hv : cs[f.offset]? = some v) (k : G P W0 n SQ ops rest (upd F d v) D L) : G P W0 n SQ ops (o :: rest) F D L :=
  G.val _ hr hd hn (fun w _ => by
    have ha : ∀ w, (isAgg f.type).run P w = .ok false w := run_isAgg_no huf hs
    simp [execOp, ho, hx, Instr.field, run_underlying hu, hf, asAgg, part, ha, hv]) k

/-! ### Bytes and texts -/
theorem foldl_push (l : List UInt8) : ∀ s : ByteArray, (l.map fun c => (c.toNat : Int)).foldl (fun r (m : Int) => r.push (UInt8.ofNat m.toNat)) s = s ++ strB l := by
  induction l with
  | nil => intro s; simp [strB, ByteArray.ext_iff]
  | cons c l ih =>
    intro s
    simp only [List.map_cons, List.foldl_cons, ih]
    have : UInt8.ofNat ((c.toNat : Int)).toNat = c := by simp
    rw [this]
    simp [strB, ByteArray.ext_iff, ByteArray.push]
theorem run_bytesStr {w : World} {a : Option Addr} {c : Nat} {xs : List UInt8} (h : ∀ j, j < (bytesV xs).length → ∃ b off, a = some ⟨b, off, none⟩ ∧ w.cell? ⟨b, off + j, none⟩ = (bytesV xs)[j]?) (hne : a = none → xs.length = 0) :
    (Conv.bytesToString (.slice a xs.length c)).run P w = .ok (.string (strB xs)) w := by
  cases a with
  | none =>
    have : xs = [] := List.eq_nil_of_length_eq_zero (hne rfl)
    subst this
    rfl
  | some x =>
    have hl : (loadCells x xs.length).run P w = .ok ((xs.map fun c => (c.toNat : Int)).map (Value.int .u8)).toArray w := by
      have h1 := run_firstCells (P := P) (sz := 1) (m := xs.length) (c := c) (a := some x) (vs := bytesV xs) (by simp) h xs.length rfl (fun h => by cases h)
      simp only [Builtin.firstCells, Nat.mul_one] at h1
      rw [h1]
      congr 2
      simp [bytesV, byteV]
    rw [run_bytesToString w x xs.length c _ hl, foldl_push]
    simp [strB, ByteArray.ext_iff, ByteArray.empty, ByteArray.emptyWithCapacity]
    rfl
theorem G.bytesStr {s t e : TypeId} {x : Operand} {a : Option Addr} {c l : Nat} (xs : List UInt8) (ho : o.op = .convert s t x) (hr : runs n ops F o) {d : Nat} (hd : o.dst = some d) (hn : Nat.blt d n = true) (hus : P.underlying s = some (.slice e)) (hue : P.underlying e = some (.int .u8)) (hut : P.underlying t = some .string)
    (hx : ev F x = .slice a l c) (hl : l = xs.length) (hrd : Rd W0 L a (bytesV xs)) (k : G P W0 n SQ ops rest (upd F d (.string (strB xs))) D L) : G P W0 n SQ ops (o :: rest) F D L :=
  G.val _ hr hd hn (fun w hm => by
    subst hl
    simp [execOp, ho, hx, run_convert_bytes_string w s t e _ _ _ hus hue hut, run_bytesStr (hrd.cells w hm) (fun h => by simpa using hrd.ne1 h)]) k
theorem freeze_ne {w : World} {b off j : Nat} (hj : j ≠ b) : (w.freeze ⟨b, off, none⟩ 1).heap[j]? = w.heap[j]? := by
  unfold World.freeze
  rw [if_neg (by decide)]
  show (Array.modify _ _ _)[j]? = _
  rw [Array.getElem?_modify, if_neg (fun e => hj e.symm)]
theorem freeze_eq {w : World} {b off lo hi : Nat} {c : Array Value} {t : TypeId} (h : w.heap[b]? = some (.cells c t (lo, hi))) : (w.freeze ⟨b, off, none⟩ 1).heap[b]? = some (.cells c t (if lo == hi then (off, off + 1) else (min lo off, max hi (off + 1)))) := by
  unfold World.freeze
  rw [if_neg (by decide)]
  show (Array.modify _ _ _)[b]? = _
  rw [Array.getElem?_modify, if_pos rfl, h]
  rfl
theorem freeze_below {W0 w : World} {b off : Nat} (hb : Below W0.heap.size W0 w) (h0 : W0.heap.size ≤ b) : Below W0.heap.size W0 (w.freeze ⟨b, off, none⟩ 1) := by
  have hs : (w.freeze ⟨b, off, none⟩ 1).heap.size = w.heap.size := by
    unfold World.freeze
    rw [if_neg (by decide)]
    show (Array.modify _ _ _).size = _
    simp
  refine ⟨?_, ?_, ?_, by rw [hs]; exact hb.size, fun j hj => (freeze_ne (by omega)).trans (hb.block j hj)⟩
  · unfold World.freeze; rw [if_neg (by decide)]; exact hb.os
  · unfold World.freeze; rw [if_neg (by decide)]; exact hb.tape
  · unfold World.freeze; rw [if_neg (by decide)]; exact hb.output
/-- a byte slice converted to its own type: what the translator lays behind a constant's bytes -/
theorem G.convSame {s e : TypeId} {x : Operand} {b l c : Nat} {cs : List Value} {e' : TypeId} {u : Nat → SObj → List Seg} (ha : At L b (.row cs e' cs.length) u) (hu0 : u b (.row cs e' cs.length) = L) (ho : o.op = .convert s s x) (hr : runs n ops F o) {d : Nat} (hd : o.dst = some d) (hn : Nat.blt d n = true) (hus : P.underlying s = some (.slice e)) (hue : P.underlying e = some (.int .u8))
    (hx : ev F x = .slice (some ⟨b, 0, none⟩) l c) (k : G P W0 n SQ ops rest (upd F d (.slice (some ⟨b, 0, none⟩) l c)) D L) (h6 : e' < 6 := by decide) : G P W0 n SQ ops (o :: rest) F D L :=
  G.eff hr hd hn fun w hm => by
    obtain ⟨h0, rest', fr, h1, h2, h3⟩ := hm.get ha
    have hr0 : rest' = [] := List.eq_nil_of_length_eq_zero (by simp only [List.length_append] at h2; omega)
    subst hr0
    have hsh : w.shape? b = some (e', cs.length) := by simp [World.shape?, h1]
    refine ⟨_, w.freeze ⟨b, cs.length, none⟩ 1, L, ?_, ?_, k⟩
    · have : (markStringish ⟨b, 0, none⟩).run P w = .ok () (w.freeze ⟨b, cs.length, none⟩ 1) := by simp [markStringish, hsh]
      simp [execOp, ho, hx, convert, run_underlying hus, run_underlying hue, this]
    · rw [← hu0]
      obtain ⟨lo, hi⟩ := fr
      refine hm.change ha (freeze_below hm.below h0) (fun j _ hj => freeze_ne hj) (.inl rfl) ⟨[], _, freeze_eq h1, by simp, ?_⟩
      right
      refine ⟨?_, h6⟩
      rcases h3 with h3 | ⟨h3, _⟩
      · injection h3 with h3 h4
        subst h3 h4
        simp
      · split
        · simp
        · simp only at h3 ⊢; omega
theorem G.strBytes {s t e : TypeId} {x : Operand} {bs : ByteArray} (ho : o.op = .convert s t x) (hr : runs n ops F o) {d : Nat} (hd : o.dst = some d) (hn : Nat.blt d n = true) (hus : P.underlying s = some .string) (hut : P.underlying t = some (.slice e)) (hue : P.underlying e = some (.int .u8))
    (hx : ev F x = .string bs) (k : ∀ b c, bs.size ≤ c → G P W0 n SQ ops rest (upd F d (.slice (some ⟨b, 0, none⟩) bs.size c)) D ([(b, .row (bytesV bs.toList) e c)] :: L)) (h6 : e < 6 := by decide) : G P W0 n SQ ops (o :: rest) F D L :=
  G.eff hr hd hn fun w hm => by
    have hlen : (bytesV bs.toList).length = bs.size := by rw [bytesV_length, ByteArray.toList_eq]; rfl
    have hge := grownCap_ge w bs.size 0 e
    have hcells : (bs.data.map fun b => Value.int .u8 (b.toNat : Int)) ++ Array.replicate (grownCap w bs.size 0 e - bs.size) (Value.int .u8 0) = (bytesV bs.toList ++ List.replicate (grownCap w bs.size 0 e - bs.size) (Value.int .u8 0)).toArray := by
      rw [ByteArray.toList_eq]
      apply Array.ext'
      simp [bytesV, byteV]
    have hsz : (bytesV bs.toList ++ List.replicate (grownCap w bs.size 0 e - bs.size) (Value.int .u8 0)).length = grownCap w bs.size 0 e := by rw [List.length_append, hlen, List.length_replicate]; omega
    have hm1 := hm.drew.alloc _ (Holds.spare w.drew (bytesV bs.toList) (List.replicate (grownCap w bs.size 0 e - bs.size) (Value.int .u8 0)) e)
    rw [hsz] at hm1
    -- the mark behind the block's end
    have hfz : ∀ (W : World) (b m : Nat) (cs : List Value), W.heap[b]? = some (.cells cs.toArray e) → cs.length = m → ∀ L', Mem W0 W ([(b, .row (bytesV bs.toList) e m)] :: L') → Mem W0 (W.freeze ⟨b, m, none⟩ 1) ([(b, .row (bytesV bs.toList) e m)] :: L') := by
      intro W b m cs hW hcs L' hM
      have h0 := (hM.get At.here).1
      obtain ⟨rest', fr, h1, h2, h3⟩ := (hM.get At.here).2
      have h1' := h1
      rw [hW] at h1'
      injection h1' with h1'
      injection h1' with h4 h5 h6
      subst h6
      exact hM.change At.here (freeze_below hM.below h0) (fun j _ hj => freeze_ne hj) (.inl rfl) ⟨rest', (m, m + 1), (freeze_eq h1).trans (by simp), h2, .inr ⟨by simp, h6⟩⟩
    have hblk : (w.drew.alloc (.cells (bytesV bs.toList ++ List.replicate (grownCap w bs.size 0 e - bs.size) (Value.int .u8 0)).toArray e)).heap[w.heap.size]? = some (.cells (bytesV bs.toList ++ List.replicate (grownCap w bs.size 0 e - bs.size) (Value.int .u8 0)).toArray e) := by
      show (w.drew.heap.push _)[w.drew.heap.size]? = _
      exact Array.getElem?_push_size
    have hm2 := hfz _ w.heap.size _ _ hblk hsz L hm1
    refine ⟨_, _, _, ?_, hm2, k w.heap.size _ hge⟩
    have hsh : (w.drew.alloc (.cells (bytesV bs.toList ++ List.replicate (grownCap w bs.size 0 e - bs.size) (Value.int .u8 0)).toArray e)).shape? w.heap.size = some (e, grownCap w bs.size 0 e) := by
      unfold World.shape?
      rw [hblk]
      simp only [List.size_toArray, hsz]
    have hcv : (Conv.stringToBytes e bs).run P w = .ok (.slice (some ⟨w.heap.size, 0, none⟩) bs.size (grownCap w bs.size 0 e)) ((w.drew.alloc (.cells (bytesV bs.toList ++ List.replicate (grownCap w bs.size 0 e - bs.size) (Value.int .u8 0)).toArray e)).freeze ⟨w.heap.size, grownCap w bs.size 0 e, none⟩ 1) := by
      simp only [Conv.stringToBytes, Sem.run_bind, run_choose, Question.forced, Bool.false_eq_true, if_false, Result.andThen_ok]
      show Result.andThen ((Go.newRow e ((bs.data.map fun b => Value.int .u8 (b.toNat : Int)) ++ Array.replicate (grownCap w bs.size 0 e - bs.size) (Value.int .u8 0))).run P w.drew) _ = _
      rw [hcells]
      simp only [Go.newRow, Sem.run_bind, run_newObj, World.alloc_eq, Result.andThen_ok, Sem.run_pure, markStringish, run_shape]
      rw [show w.drew.heap.size = w.heap.size from rfl, hsh]
      rfl
    have hcv' : (convert s t (.string bs)).run P w = (Conv.stringToBytes e bs).run P w := by simp [convert, run_underlying hus, run_underlying hut, run_underlying hue]
    simp only [execOp, ho, hx, Sem.run_bind, hcv', hcv, Result.andThen_ok, Sem.run_pure]
theorem G.convStr {s t : TypeId} {x : Operand} {bs : ByteArray} (ho : o.op = .convert s t x) (hr : runs n ops F o) {d : Nat} (hd : o.dst = some d) (hn : Nat.blt d n = true) (hus : P.underlying s = some .string) (hut : P.underlying t = some .string) (hx : ev F x = .string bs) (k : G P W0 n SQ ops rest (upd F d (.string bs)) D L) : G P W0 n SQ ops (o :: rest) F D L :=
  G.val _ hr hd hn (fun w _ => by simp [execOp, ho, hx, convert, run_underlying hus, run_underlying hut]) k
/-- copy onto cells that are known -/
theorem G.copy {x y : Operand} {t t2 e : TypeId} {b off l c m c2 sz by_ : Nat} {a : Option Addr} {z : Value} {cs vs : List Value} {e' : TypeId} {kk : Nat} {u : Nat → SObj → List Seg} (hau : ∀ o', At (u b o') b o' u) (heq : u b (.row cs e' kk) = L) (ho : o.op = .call { callee := .builtin .copy, args := #[x, y], argTypes := #[t, t2] }) (hr : runs n ops F o) {d : Nat} (hd : o.dst = some d) (hn : Nat.blt d n = true)
    (hu : P.underlying t = some (.slice e)) (hi : Inf P e sz by_ z) (hx : ev F x = .slice (some ⟨b, off, none⟩) l c) (hy : ev F y = .slice a m c2) (hsz0 : 0 < sz) (hvs : vs.length = min m l * sz) (hrd : Rd W0 L a vs) (hok : ∀ v ∈ vs, cellsOk v = true) (hlt : off + vs.length ≤ cs.length)
    (k : G P W0 n SQ ops rest (upd F d (.int .i64 (min m l : Nat))) D (u b (.row (cs.take off ++ vs ++ cs.drop (off + vs.length)) e' kk))) : G P W0 n SQ ops (o :: rest) F D L :=
  G.eff hr hd hn fun w hm => by
    subst heq
    have hsz : ∀ w, (sizeOf e).run P w = .ok sz w := fun w => hi.run_size
    obtain ⟨w', h1, h2⟩ := Mem.overs (P := P) hau vs cs w off 0 hm (by simpa using hlt) hok
    have hfc : (Builtin.firstCells sz (min m l) (.slice a m c2)).run P w = .ok vs.toArray w := by
      have := run_firstCells (P := P) (w := w) (m := min m l) (c := c2) hvs (hrd.cells w hm) (min m l) rfl (hrd.ne hvs hsz0)
      cases a with
      | none => simpa [Builtin.firstCells] using this
      | some a => exact this
    refine ⟨_, w', _, ?_, h2, k⟩
    simp [execOp, ho, hx, hy, resolve, invoke, builtin, Builtin.copy_, run_underlying hu, hsz, Builtin.lenOf, hfc, h1, goInt]
end rules
end Go.SL
/-
  A region that draws its order: its operations one by one, those that only read taken first (a read is good as long as none of the writers named has come up). No program in sight.
-/
namespace Go.SL
open Go Go.RowKit

section
variable {P : Program} {ops : Array Oper} {Q : Exit → Act → World → Prop} {md : Region.Mode} {K : World → Prop} {T : List Nat}

/-- one of the writers has come up -/
def hit (T : List Nat) (listed : Array Bool) : Bool := T.any fun t => listed.getD t false
/-- whoever has come up, those ahead of it have -/
def closedT (md : Region.Mode) (ops : Array Oper) (T : List Nat) (listed : Array Bool) : Prop :=
  T = T ∧ ∀ t, listed.getD t false = true → ∀ o, ops[t]? = some o → ∀ e ∈ o.after, Region.binds md e = true → listed.getD e.on false = true
/-- whatever order is picked from here on, and K holds as long as no writer has come up -/
def anyV (P : Program) (md : Region.Mode) (ops : Array Oper) (Q : Exit → Act → World → Prop) (K : World → Prop) (T : List Nat) : Nat → Array Bool → Act → World → Prop
  | 0, listed, a, w => Region.ready md ops listed = [] ∧ Q .normal a w
  | fuel + 1, listed, a, w =>
    (Region.ready md ops listed = [] → Q .normal a w) ∧
    ∀ i ∈ Region.ready md ops listed, wpOp P ops Q i (fun a' w' => (hit T (listed.setIfInBounds i true) = false → K w') ∧ anyV P md ops Q K T fuel (listed.setIfInBounds i true) a' w') a w
theorem wpAny_of_V : ∀ (fuel : Nat) (listed : Array Bool) (a : Act) (w : World), anyV P md ops Q K T fuel listed a w → wpAny P md ops Q fuel listed a w
  | 0, _, _, _, h => h
  | fuel + 1, _, _, _, h => ⟨h.1, fun i hi => wpOp_mono (fun a' w' h' => wpAny_of_V fuel _ a' w' h'.2) (h.2 i hi)⟩
theorem closedT_step {listed : Array Bool} {j : Nat} (h : closedT md ops T listed) (hj : j ∈ Region.ready md ops listed) : closedT md ops T (listed.setIfInBounds j true) := by
  obtain ⟨_, oj, hoj, hall⟩ := mem_ready.1 hj
  refine ⟨rfl, fun t hl o ho e he hb => ?_⟩
  by_cases hjt : j = t
  · subst hjt
    rw [hoj] at ho
    cases ho
    exact getD_set_true (hall e he hb)
  · rw [getD_set_ne false hjt] at hl
    exact getD_set_true (h.2 t hl o ho e he hb)
/-- t waits for i, at once or over others -/
def reaches (md : Region.Mode) (ops : Array Oper) (i : Nat) : Nat → Nat → Bool
  | 0, _ => false
  | k + 1, t => match ops[t]? with | some o => o.after.any (fun e => Region.binds md e && (e.on == i || reaches md ops i k e.on)) | none => false
/-- the writers wait for i -/
def waitT (md : Region.Mode) (ops : Array Oper) (T : List Nat) (i : Nat) : Bool := T.all fun t => reaches md ops i 3 t
theorem reaches_listed {listed : Array Bool} {i : Nat} (hc : closedT md ops T listed) : ∀ (k t : Nat), reaches md ops i k t = true → listed.getD t false = true → listed.getD i false = true
  | 0, _, h, _ => by cases h
  | k + 1, t, h, hl => by
    unfold reaches at h
    cases ho : ops[t]? with
    | none => rw [ho] at h; cases h
    | some o =>
      rw [ho] at h
      obtain ⟨e, he, hb⟩ := Array.any_eq_true'.1 h
      simp only [Bool.and_eq_true, Bool.or_eq_true, beq_iff_eq] at hb
      have h2 := hc.2 t hl o ho e he hb.1
      rcases hb.2 with h3 | h3
      · rwa [h3] at h2
      · exact reaches_listed hc k e.on h3 h2
theorem no_hit {listed : Array Bool} {i : Nat} {oi : Oper} (hi : ops[i]? = some oi) (hw : waitT md ops T i = true) (hc : closedT md ops T listed) (hu : listed.getD i true = false) (hlen : ∀ t ∈ T, t < ops.size) : hit T listed = false := by
  cases hh : hit T listed with
  | false => rfl
  | true =>
    obtain ⟨t, ht, hl⟩ := List.any_eq_true.1 hh
    have h2 := reaches_listed hc 3 t (List.all_eq_true.1 hw t ht) hl
    rcases Nat.lt_or_ge i listed.size with h' | h'
    · simp [h'] at h2 hu; rw [h2] at hu; cases hu
    · simp [Array.getElem?_eq_none h'] at h2
theorem hit_skip {listed : Array Bool} {i : Nat} (h : T.contains i = false) : hit T (listed.setIfInBounds i true) = hit T listed := by
  unfold hit
  have : ∀ t ∈ T, (listed.setIfInBounds i true).getD t false = listed.getD t false := by
    intro t ht
    refine getD_set_ne false ?_
    rintro rfl
    simp [ht] at h
  induction T with
  | nil => rfl
  | cons t T ih =>
    simp only [List.any_cons]
    rw [this t (by simp), ih (by simp at h ⊢; exact h.2) (fun t ht => this t (by simp [ht]))]
theorem anyV_first {i : Nat} {oi : Oper} {v : Value} (hi : ops[i]? = some oi) (hsel : ∀ (j : Nat) (o : Oper) cs b, ops[j]? = some o → o.op ≠ .select cs b)
    (hQ : ∀ c a w, Q (.panic c) (a.put oi.dst v) w → Q (.panic c) a w) (hiT : T.contains i = false) (S : World → Prop) (hS : ∀ listed w, listed.getD i true = false → closedT md ops T listed → (hit T listed = false → K w) → S w) :
    ∀ (fuel : Nat) (listed : Array Bool) (a : Act) (w : World),
      (∀ j oj, ops[j]? = some oj → j ≠ i → listed.getD j true = false → (∀ e ∈ oj.after, Region.binds md e = true → e.on ≠ i) → oi.apart ops oj = true) →
      i ∈ Region.ready md ops listed → YieldsIf P ops S oi v a → closedT md ops T listed → (hit T listed = false → K w) →
      anyV P md ops Q K T fuel (listed.setIfInBounds i true) (a.put oi.dst v) w → anyV P md ops Q K T (fuel + 1) listed a w := by
  intro fuel
  induction fuel with
  | zero =>
    intro listed a w _ hr hy hcl hk H
    refine ⟨fun h => (by rw [h] at hr; cases hr), fun j hj => ?_⟩
    by_cases hji : j = i
    · subst hji
      refine hy.wpOp hi (hS listed w (mem_ready.1 hr).1 hcl hk) ⟨fun hh => hk (by rwa [hit_skip hiT] at hh), H⟩
    · have := ready_mono hj hji
      rw [H.1] at this
      cases this
  | succ fuel ih =>
    intro listed a w hfree hr hy hcl hk H
    refine ⟨fun h => (by rw [h] at hr; cases hr), fun j hj => ?_⟩
    by_cases hji : j = i
    · subst hji
      exact hy.wpOp hi (hS listed w (mem_ready.1 hr).1 hcl hk) ⟨fun hh => hk (by rwa [hit_skip hiT] at hh), H⟩
    · have h1 := H.2 j (ready_mono hj hji)
      obtain ⟨hjun, oj, hoj, hall⟩ := mem_ready.1 hj
      have hnot : ∀ e ∈ oj.after, Region.binds md e = true → e.on ≠ i := fun e he hb heq => by
        have h1 := hall e he hb
        have h0 := (mem_ready.1 hr).1
        rw [heq] at h1
        rcases Nat.lt_or_ge i listed.size with h' | h'
        · simp [h'] at h0 h1; rw [h0] at h1; cases h1
        · simp [Array.getElem?_eq_none h'] at h1
      have h2 := wpOp_putIf hoj (hfree j oj hoj hji hjun hnot) (fun cs b => hsel i oi cs b hi) (fun cs b => hsel j oj cs b hoj) hQ hy h1
      have hfree' : ∀ k ok, ops[k]? = some ok → k ≠ i → (listed.setIfInBounds j true).getD k true = false →
          (∀ e ∈ ok.after, Region.binds md e = true → e.on ≠ i) → oi.apart ops ok = true := fun k ok hk hki hun hno => by
        refine hfree k ok hk hki ?_ hno
        by_cases hjk : j = k
        · subst hjk; exact hjun
        · rw [getD_set_ne true hjk] at hun; exact hun
      refine wpOp_mono (fun a' w' h3 => ?_) h2
      have hk' : hit T (listed.setIfInBounds j true) = false → K w' := fun hh => h3.2.1 (by rw [Array.setIfInBounds_comm _ _ (Ne.symm hji), hit_skip hiT]; exact hh)
      refine ⟨hk', ih (listed.setIfInBounds j true) a' w' hfree' (ready_mono hr (Ne.symm hji)) h3.1 (closedT_step hcl hj) hk' ?_⟩
      rw [Array.setIfInBounds_comm _ _ hji]
      exact h3.2.2
end

/-! ### The walk's judgement -/
def GA (P : Program) (W0 : World) (n : Nat) (SQ : SPost) (ops : Array Oper) (K : List Seg) (T : List Nat) (fuel : Nat) (listed : Array Bool) (F : Nat → Value) (D : List Deferred) (L : List Seg) : Prop :=
  ∀ a w, Sl n a F → a.defers = D → Mem W0 w L → closedT .any ops T listed → (hit T listed = false → Mem W0 w K) → anyV P .any ops (lift W0 n SQ) (fun w => Mem W0 w K) T fuel listed a w
/-- a panic's post does not look at the slots -/
def NoF (SQ : SPost) : Prop := ∀ c F F' D L, SQ (.panic c) F D L → SQ (.panic c) F' D L
section
variable {P : Program} {W0 : World} {n : Nat} {SQ : SPost} {F : Nat → Value} {D : List Deferred} {L : List Seg} {ops : Array Oper} {K : List Seg} {T : List Nat} {listed : Array Bool} {fuel : Nat}
theorem C.drawn {id : Nat} {l : List Oper} (hm : P.follows .mixedOrders = true) (K : List Seg) (T : List Nat) (hK : ∀ w, Mem W0 w L → Mem W0 w K) (h : GA P W0 n SQ l.toArray K T l.length (Array.replicate l.length false) F D L) : C P W0 n SQ (.region id l.toArray true) F D L := by
  intro a w hs hd hmem
  refine wp_region_any hm (wpAny_of_V (K := fun w => Mem W0 w K) (T := T) _ _ _ _ ?_)
  have := h a w.drew hs hd hmem.drew ?_ (fun _ => hK _ hmem.drew)
  · simpa using this
  · refine ⟨rfl, fun t ht => ?_⟩
    simp [Array.getElem?_replicate] at ht
    split at ht <;> simp at ht
theorem hQ_of {i : Option Nat} {v : Value} (hf : NoF SQ) : ∀ c (a : Act) w, lift W0 n SQ (.panic c) (a.put i v) w → lift W0 n SQ (.panic c) a w := by
  rintro c a w ⟨F, L, h1, h2, h3⟩
  refine ⟨fun t => a.tmps.getD t undef, L, ⟨?_, fun _ => rfl⟩, h2, ?_⟩
  · rw [← h1.size]
    cases i <;> simp [Act.put]
  · rw [put_defers] at h3
    exact hf _ _ _ _ _ h3
/-- one that yields its value whatever the world is -/
theorem GA.pure {i : Nat} {o : Oper} {v : Value} {d : Nat} (hf : NoF SQ) (hi : ops[i]? = some o) (hb : (Region.noSelect ops && Region.free .any ops listed i && (Region.ready .any ops listed).contains i && !T.contains i) = true)
    (hr : runs n ops F o) (hd : o.dst = some d) (hn : Nat.blt d n = true) (hy : ∀ w, (execOp (ev F) o).run P w = .ok (.value v) w) (listed' : Array Bool) (hl : listed.setIfInBounds i true = listed')
    (k : GA P W0 n SQ ops K T fuel listed' (upd F d v) D L) : GA P W0 n SQ ops K T (fuel + 1) listed F D L := by
  intro a w hs hD hmem hc hk
  simp only [Bool.and_eq_true, Bool.not_eq_true'] at hb
  obtain ⟨⟨⟨h1, h2⟩, h3⟩, h4⟩ := hb
  subst hl
  have hr' := hr
  refine anyV_first hi (Region.noSelect_spec h1) (hQ_of hf) h4 (fun _ => True) (fun _ _ _ _ _ => trivial) fuel listed a w (Region.free_spec hi h2) (by simpa using h3) (.inl ⟨wanted_of hs hr, fun w _ => by rw [hs.eval_fun]; exact hy w⟩) hc hk ?_
  exact k _ w (hs.put hd hn v) (by rw [put_defers]; exact hD) hmem (closedT_step hc (by simpa using h3)) (fun hh => hk (by rwa [hit_skip h4] at hh))
/-- one that reads what K tells: the writers wait for it -/
theorem GA.read {i : Nat} {o : Oper} {v : Value} {d : Nat} (hf : NoF SQ) (hi : ops[i]? = some o) (hb : (Region.noSelect ops && Region.free .any ops listed i && (Region.ready .any ops listed).contains i && !T.contains i) = true)
    (hT : (waitT .any ops T i && T.all (fun t => Nat.blt t ops.size)) = true) (hr : runs n ops F o) (hd : o.dst = some d) (hn : Nat.blt d n = true) (hy : ∀ w, Mem W0 w K → (execOp (ev F) o).run P w = .ok (.value v) w) (listed' : Array Bool) (hl : listed.setIfInBounds i true = listed')
    (k : GA P W0 n SQ ops K T fuel listed' (upd F d v) D L) : GA P W0 n SQ ops K T (fuel + 1) listed F D L := by
  intro a w hs hD hmem hc hk
  simp only [Bool.and_eq_true, Bool.not_eq_true'] at hb hT
  obtain ⟨⟨⟨h1, h2⟩, h3⟩, h4⟩ := hb
  obtain ⟨h5, h6⟩ := hT
  have h6' : ∀ t ∈ T, t < ops.size := fun t ht => Nat.le_of_ble_eq_true (List.all_eq_true.1 h6 t ht)
  subst hl
  refine anyV_first hi (Region.noSelect_spec h1) (hQ_of hf) h4 (fun w => Mem W0 w K) (fun listed w hu hc hk => hk (no_hit hi h5 hc hu h6')) fuel listed a w (Region.free_spec hi h2) (by simpa using h3) (.inl ⟨wanted_of hs hr, fun w hw => by rw [hs.eval_fun]; exact hy w hw⟩) hc hk ?_
  exact k _ w (hs.put hd hn v) (by rw [put_defers]; exact hD) hmem (closedT_step hc (by simpa using h3)) (fun hh => hk (by rwa [hit_skip h4] at hh))
/-- one that its guard does not let -/
theorem GA.skip {i j t : Nat} {o : Oper} {d : Nat} {b : Bool} (hf : NoF SQ) (hi : ops[i]? = some o) (hb : (Region.noSelect ops && Region.free .any ops listed i && (Region.ready .any ops listed).contains i && !T.contains i) = true)
    (hg : o.guard = some (j, b)) (h1 : (ops[j]?).bind (·.dst) = some t) (h2 : Nat.blt t n = true) (h3 : F t = .bool !b) (hd : o.dst = some d) (hn : Nat.blt d n = true) (listed' : Array Bool) (hl : listed.setIfInBounds i true = listed')
    (k : GA P W0 n SQ ops K T fuel listed' (upd F d undef) D L) : GA P W0 n SQ ops K T (fuel + 1) listed F D L := by
  intro a w hs hD hmem hc hk
  simp only [Bool.and_eq_true, Bool.not_eq_true'] at hb
  obtain ⟨⟨⟨e1, e2⟩, e3⟩, e4⟩ := hb
  subst hl
  have hw : Region.wanted o (yielded ops a.tmps) = false := by
    unfold Region.wanted
    rw [hg]
    simp only [yielded_of hs h1 h2 h3]
    cases b <;> rfl
  refine anyV_first hi (Region.noSelect_spec e1) (hQ_of hf) e4 (fun _ => True) (fun _ _ _ _ _ => trivial) fuel listed a w (Region.free_spec hi e2) (by simpa using e3) (.inr ⟨hw, rfl⟩) hc hk ?_
  exact k _ w (hs.put hd hn undef) (by rw [put_defers]; exact hD) hmem (closedT_step hc (by simpa using e3)) (fun hh => hk (by rwa [hit_skip e4] at hh))
/-- the only one that may come up: by any rule of a plain region -/
theorem GA.one {i : Nat} {o : Oper} (hi : ops[i]? = some o) (hrd : Region.ready .any ops listed = [i]) (listed' : Array Bool) (hl : listed.setIfInBounds i true = listed')
    (k : G P W0 n (SPost.seq (fun F D L => (∀ w, hit T listed' = false → Mem W0 w L → Mem W0 w K) ∧ GA P W0 n SQ ops K T fuel listed' F D L) SQ) ops [o] F D L) : GA P W0 n SQ ops K T (fuel + 1) listed F D L := by
  intro a w hs hD hmem hc hk
  subst hl
  refine ⟨fun h => absurd (hrd.symm.trans h) (by simp), fun j hj => ?_⟩
  have hj' := hj
  rw [hrd, List.mem_singleton] at hj
  subst hj
  have h1 := k a w hs hD hmem
  have hc' := closedT_step hc hj'
  have hnx : ∀ a' w', wpList P ops (lift W0 n (SPost.seq (fun F D L => (∀ w, hit T (listed.setIfInBounds j true) = false → Mem W0 w L → Mem W0 w K) ∧ GA P W0 n SQ ops K T fuel (listed.setIfInBounds j true) F D L) SQ)) [] a' w' →
      (hit T (listed.setIfInBounds j true) = false → Mem W0 w' K) ∧ anyV P .any ops (lift W0 n SQ) (fun w => Mem W0 w K) T fuel (listed.setIfInBounds j true) a' w' := by
    rintro a' w' ⟨F', L', q1, q2, q3, q4⟩
    exact ⟨fun hh => q3 w' hh q2, q4 a' w' q1 rfl q2 hc' (fun hh => q3 w' hh q2)⟩
  have hpost : ∀ e a' w', e ≠ .normal → lift W0 n (SPost.seq (fun F D L => (∀ w, hit T (listed.setIfInBounds j true) = false → Mem W0 w L → Mem W0 w K) ∧ GA P W0 n SQ ops K T fuel (listed.setIfInBounds j true) F D L) SQ) e a' w' → lift W0 n SQ e a' w' := by
    rintro e a' w' hne ⟨F', L', q1, q2, q3⟩
    refine ⟨F', L', q1, q2, ?_⟩
    cases e <;> first | exact absurd rfl hne | exact q3
  unfold wpList at h1
  unfold wpOp
  rw [hi]
  split at h1
  · rename_i hw
    simp only [hw, if_true]
    rcases h1 with h1 | ⟨h1, h2⟩
    · refine .inl ?_
      unfold Oper.wp at h1 ⊢
      generalize (execOp a.eval o).run P w = r at h1 ⊢
      cases r with
      | ok x w' =>
        cases x <;> simp only [Oper.upon] at h1 ⊢
        case value u => exact hnx _ _ h1
        case skip => exact hnx _ _ h1
        case defer d => exact hnx _ _ h1
        case enter f args =>
          refine Calls.mono h1 fun e w'' he => ?_
          cases e with
          | returned u => exact hnx _ _ he
          | panicked c => exact hpost _ _ _ (by simp) he
          | outgrown =>
            obtain ⟨a0, w0, he⟩ := he
            exact ⟨a0, w0, hpost _ _ _ (by simp) he⟩
        case row row args => exact Rows.mono h1 fun u w'' he => hnx _ _ he
      | halt x w' =>
        cases x <;> simp only [Oper.upon] at h1 ⊢
        case panic u => exact hpost _ _ _ (by simp) h1
    · obtain ⟨a0, w0, he⟩ := h2
      exact .inr ⟨h1, a0, w0, hpost _ _ _ (by simp) he⟩
  · rename_i hw
    simp only [hw]
    exact hnx _ _ h1
theorem GA.done (hrd : Region.ready .any ops listed = []) (h : SQ .normal F D L) : GA P W0 n SQ ops K T fuel listed F D L := by
  intro a w hs hD hmem _ _
  have hq : lift W0 n SQ .normal a w := ⟨F, L, hs, hmem, hD ▸ h⟩
  cases fuel with
  | zero => exact ⟨hrd, hq⟩
  | succ fuel => exact ⟨fun _ => hq, by rw [hrd]; simp⟩
theorem GA.fork {t : Nat} (p : Prop) [Decidable p] (h : F t = .bool (decide p)) (ht : p → GA P W0 n SQ ops K T fuel listed (upd F t (.bool true)) D L) (hf : ¬ p → GA P W0 n SQ ops K T fuel listed (upd F t (.bool false)) D L) : GA P W0 n SQ ops K T fuel listed F D L := by
  by_cases hp : p
  · have := ht hp
    rwa [upd_eq (by rw [h, decide_eq_true hp])] at this
  · have := hf hp
    rwa [upd_eq (by rw [h, decide_eq_false hp])] at this
theorem GA.forkB {t : Nat} (b : Bool) (h : F t = .bool b) (ht : b = true → GA P W0 n SQ ops K T fuel listed (upd F t (.bool true)) D L) (hf : b = false → GA P W0 n SQ ops K T fuel listed (upd F t (.bool false)) D L) : GA P W0 n SQ ops K T fuel listed F D L := by
  cases b with
  | true => have := ht rfl; rwa [upd_eq h] at this
  | false => have := hf rfl; rwa [upd_eq h] at this
theorem GA.yes {t : Nat} {p : Prop} [Decidable p] (h : F t = .bool (decide p)) (hp : p) (k : GA P W0 n SQ ops K T fuel listed (upd F t (.bool true)) D L) : GA P W0 n SQ ops K T fuel listed F D L := by
  rwa [upd_eq (by rw [h, decide_eq_true hp])] at k
theorem GA.no {t : Nat} {p : Prop} [Decidable p] (h : F t = .bool (decide p)) (hp : ¬ p) (k : GA P W0 n SQ ops K T fuel listed (upd F t (.bool false)) D L) : GA P W0 n SQ ops K T fuel listed F D L := by
  rwa [upd_eq (by rw [h, decide_eq_false hp])] at k
theorem GA.fix {d : Nat} {v : Value} (h : F d = v) (k : GA P W0 n SQ ops K T fuel listed (upd F d v) D L) : GA P W0 n SQ ops K T fuel listed F D L := by
  rwa [upd_eq h] at k
end
end Go.SL
/-
  What the operations that leave the world alone come to, as plain facts on their runs (out of the rules G.., by a program of this workplace: mky.py). No program in sight.
-/
namespace Go.SL
open Go Go.RowKit
section rules
variable {P : Program} {W0 : World} {F : Nat → Value} {L : List Seg} {o : Oper}
theorem Y.mv {x : Operand} (v : Value) (ho : o.op = .move x ∨ o.op = .assign x) (hx : ev F x = v) : ∀ w, (execOp (ev F) o).run P w = .ok (.value v) w :=
  fun w => by rcases ho with ho | ho <;> simp [execOp, ho, hx]
theorem Y.pickT {c x y : Operand} {b' : Bool} (ho : o.op = .pick c x y) (hc : ev F c = .bool true) (hx : ev F x = .bool b') : ∀ w, (execOp (ev F) o).run P w = .ok (.value (.bool b')) w :=
  fun w => by simp [execOp, ho, hc, asBool, hx]
theorem Y.pickF {c x y : Operand} {b' : Bool} (ho : o.op = .pick c x y) (hc : ev F c = .bool false) (hx : ev F y = .bool b') : ∀ w, (execOp (ev F) o).run P w = .ok (.value (.bool b')) w :=
  fun w => by simp [execOp, ho, hc, asBool, hx]
theorem Y.bin {op : BinOp} {t yt : TypeId} {x y : Operand} {kd : IntKind} {a b : Int} {v : Value} (ho : o.op = .binOp op t x y yt) 
    (hx : ev F x = .int kd a) (hy : ev F y = .int kd b) (hv : binI op kd a b = some v) : ∀ w, (execOp (ev F) o).run P w = .ok (.value v) w :=
  fun w => by simp [execOp, ho, hx, hy, eqGuard_int, binI_run hv]
theorem Y.quo {t yt : TypeId} {x y : Operand} {kd : IntKind} {a b : Int} (ho : o.op = .binOp .quo t x y yt) (hx : ev F x = .int kd a) (hy : ev F y = .int kd b) (h0 : b ≠ 0) : ∀ w, (execOp (ev F) o).run P w = .ok (.value (.int kd (kd.wrap (a.tdiv b)))) w :=
  fun w => by simp [execOp, ho, hx, hy, eqGuard_int, binOp, Op.intDiv, h0]
theorem Y.rem {t yt : TypeId} {x y : Operand} {kd : IntKind} {a b : Int} (ho : o.op = .binOp .rem t x y yt) (hx : ev F x = .int kd a) (hy : ev F y = .int kd b) (h0 : b ≠ 0) : ∀ w, (execOp (ev F) o).run P w = .ok (.value (.int kd (a.tmod b))) w :=
  fun w => by simp [execOp, ho, hx, hy, eqGuard_int, binOp, Op.intDiv, h0]
theorem Y.shl {t yt : TypeId} {x y : Operand} {kd ky : IntKind} {a b : Int} (ho : o.op = .binOp .shl t x y yt) (hx : ev F x = .int kd a) (hy : ev F y = .int ky b) (h0 : 0 ≤ b) : ∀ w, (execOp (ev F) o).run P w = .ok (.value (.int kd (kd.wrap (a * 2 ^ (min b.toNat kd.bits))))) w :=
  fun w => by
    have hn : ¬ b < 0 := by omega
    simp [execOp, ho, hx, hy, eqGuard_ne, binOp, Op.shift, hn]
theorem Y.shr {t yt : TypeId} {x y : Operand} {kd ky : IntKind} {a b : Int} (ho : o.op = .binOp .shr t x y yt) (hx : ev F x = .int kd a) (hy : ev F y = .int ky b) (h0 : 0 ≤ b) : ∀ w, (execOp (ev F) o).run P w = .ok (.value (.int kd (a.fdiv (2 ^ (min b.toNat kd.bits))))) w :=
  fun w => by
    have hn : ¬ b < 0 := by omega
    simp [execOp, ho, hx, hy, eqGuard_ne, binOp, Op.shift, hn]
theorem Y.not {t : TypeId} {x : Operand} {b : Bool} (ho : o.op = .unOp .not t x) (hx : ev F x = .bool b) : ∀ w, (execOp (ev F) o).run P w = .ok (.value (.bool !b)) w :=
  fun w => by simp [execOp, ho, hx, Op.unary]
theorem Y.notD {t : TypeId} {x : Operand} {p : Prop} [Decidable p] (ho : o.op = .unOp .not t x) (hx : ev F x = .bool (decide p)) : ∀ w, (execOp (ev F) o).run P w = .ok (.value (.bool (decide ¬p))) w :=
  fun w => by simp [execOp, ho, hx, Op.unary]
theorem Y.neg {t : TypeId} {x : Operand} {kd : IntKind} {a : Int} (ho : o.op = .unOp .neg t x) (hx : ev F x = .int kd a) : ∀ w, (execOp (ev F) o).run P w = .ok (.value (.int kd (kd.wrap (0 - a)))) w :=
  fun w => by simp [execOp, ho, hx, Op.unary, Op.intArith]
theorem Y.compl {t : TypeId} {x : Operand} {kd : IntKind} {a : Int} (ho : o.op = .unOp .xor t x) (hx : ev F x = .int kd a) : ∀ w, (execOp (ev F) o).run P w = .ok (.value (.int kd (kd.wrap (BitVec.ofInt kd.bits (if kd.signed then -1 else kd.max) ^^^ BitVec.ofInt kd.bits a).toNat))) w :=
  fun w => by simp [execOp, ho, hx, Op.unary, Op.intBits]
theorem Y.convInt {s t : TypeId} {x : Operand} {ks kd kx : IntKind} {a : Int} (ho : o.op = .convert s t x) (hus : P.underlying s = some (.int ks)) (hud : P.underlying t = some (.int kd)) (hx : ev F x = .int kx a) : ∀ w, (execOp (ev F) o).run P w = .ok (.value (.int kd (kd.wrap a))) w :=
  fun w => by simp [execOp, ho, hx, convert, run_underlying hus, run_underlying hud, Conv.intToInt]
theorem Y.extract {x : Operand} {i : Nat} {vs : Array Value} {v : Value} (ho : o.op = .extract x i) (hx : ev F x = .tuple vs) (hv : vs[i]? = some v) : ∀ w, (execOp (ev F) o).run P w = .ok (.value v) w :=
  fun w => by simp [execOp, ho, hx, Instr.extract, hv]
theorem Y.makeFunc {fn : Fn} {first captured : Array Operand} (ho : o.op = .makeFunc fn first captured) : ∀ w, (execOp (ev F) o).run P w = .ok (.value (.func fn (first.map (ev F)) (captured.map (ev F)))) w :=
  fun w => by simp [execOp, ho, Instr.makeFunc]
theorem Y.makeInterface {t : TypeId} {x : Operand} {td : TypeDesc} (ho : o.op = .makeInterface t x) (hu : P.underlying t = some td) (hni : notIface td = true) : ∀ w, (execOp (ev F) o).run P w = .ok (.value (.iface t (ev F x))) w :=
  fun w => by
    simp only [execOp, ho, Instr.makeInterface, Sem.run_bind, run_underlying hu, Result.andThen_ok]
    cases td <;> simp_all [notIface]
theorem Y.nilCheckP {x : Operand} {a : Addr} (ho : o.op = .nilCheck x) (hx : ev F x = .pointer (some a)) : ∀ w, (execOp (ev F) o).run P w = .ok (.value (.pointer (some a))) w :=
  fun w => by simp [execOp, ho, hx]
theorem Y.nilCheckF {x : Operand} {f : FuncId} {first captured : Array Value} (ho : o.op = .nilCheck x) (hx : ev F x = .func (.func f) first captured) : ∀ w, (execOp (ev F) o).run P w = .ok (.value (.func (.func f) first captured)) w :=
  fun w => by simp [execOp, ho, hx]
theorem Y.lenSlice {x : Operand} {t e : TypeId} {a : Option Addr} {l c : Nat} (ho : o.op = .call { callee := .builtin .len, args := #[x], argTypes := #[t] }) 
    (hu : P.underlying t = some (.slice e)) (hx : ev F x = .slice a l c) : ∀ w, (execOp (ev F) o).run P w = .ok (.value (.int .i64 l)) w :=
  fun w => by simp [execOp, ho, hx, resolve, invoke, builtin, Builtin.len_, run_underlying hu, goInt]
theorem Y.lenStr {x : Operand} {t : TypeId} {s : ByteArray} (ho : o.op = .call { callee := .builtin .len, args := #[x], argTypes := #[t] }) 
    (hu : P.underlying t = some .string) (hx : ev F x = .string s) : ∀ w, (execOp (ev F) o).run P w = .ok (.value (.int .i64 s.size)) w :=
  fun w => by simp [execOp, ho, hx, resolve, invoke, builtin, Builtin.len_, run_underlying hu, goInt]
theorem Y.max2 {x y : Operand} {t1 t2 : TypeId} {kd : IntKind} {a b : Int} (ho : o.op = .call { callee := .builtin .max, args := #[x, y], argTypes := #[t1, t2] }) 
    (hx : ev F x = .int kd a) (hy : ev F y = .int kd b) : ∀ w, (execOp (ev F) o).run P w = .ok (.value (.int kd (if b > a then b else a))) w :=
  fun w => by simp [execOp, ho, hx, hy, resolve, invoke, builtin, Builtin.max_, Builtin.max2]
theorem Y.min2 {x y : Operand} {t1 t2 : TypeId} {kd : IntKind} {a b : Int} (ho : o.op = .call { callee := .builtin .min, args := #[x, y], argTypes := #[t1, t2] }) 
    (hx : ev F x = .int kd a) (hy : ev F y = .int kd b) : ∀ w, (execOp (ev F) o).run P w = .ok (.value (.int kd (if b < a then b else a))) w :=
  fun w => by simp [execOp, ho, hx, hy, resolve, invoke, builtin, Builtin.min_, Builtin.min2]
theorem Y.indexAddr {t e : TypeId} {x y : Operand} {kd : IntKind} {b off l c : Nat} {i : Int} {sz by_ : Nat} {z : Value} (ho : o.op = .indexAddr t x y) 
    (hu : P.underlying t = some (.slice e)) (hi : Inf P e sz by_ z) (hx : ev F x = .slice (some ⟨b, off, none⟩) l c) (hy : ev F y = .int kd i) (h : 0 ≤ i ∧ i < l) : ∀ w, (execOp (ev F) o).run P w = .ok (.value (.pointer (some ⟨b, off + i.toNat * sz, none⟩))) w :=
  fun w => by
    have hs := hi.run_size (w := w)
    have hs' : ∀ w, (sizeOf e).run P w = .ok sz w := fun w => hi.run_size
    simp [execOp, ho, hx, hy, Instr.indexAt, asIntOf, run_underlying hu, h.1, h.2, hs', add_mul_addr]
theorem Y.indexAddrArr {t e : TypeId} {x y : Operand} {kd : IntKind} {b off l : Nat} {i : Int} {sz by_ : Nat} {z : Value} (ho : o.op = .indexAddr t x y) 
    (hu : P.underlying t = some (.array l e)) (hi : Inf P e sz by_ z) (hx : ev F x = .pointer (some ⟨b, off, none⟩)) (hy : ev F y = .int kd i) (h : 0 ≤ i ∧ i < l) : ∀ w, (execOp (ev F) o).run P w = .ok (.value (.pointer (some ⟨b, off + i.toNat * sz, none⟩))) w :=
  fun w => by
    have hs' : ∀ w, (sizeOf e).run P w = .ok sz w := fun w => hi.run_size
    simp [execOp, ho, hx, hy, Instr.indexAt, Instr.sureAddr, asIntOf, run_underlying hu, h.1, h.2, hs', add_mul_addr]
theorem Y.fieldAddr {t : TypeId} {x : Operand} {fs : Array Field} {f : Field} {i b off sz by_ : Nat} {z : Value} (ho : o.op = .fieldAddr t x i) 
    (hu : P.underlying t = some (.struct fs)) (hf : fs[i]? = some f) (hi : Inf P f.type sz by_ z) (hz : Nat.beq sz 0 = false) (hx : ev F x = .pointer (some ⟨b, off, none⟩)) : ∀ w, (execOp (ev F) o).run P w = .ok (.value (.pointer (some ⟨b, off + f.offset, none⟩))) w :=
  fun w => by
    have hs' : ∀ w, (sizeOf f.type).run P w = .ok sz w := fun w => hi.run_size
    have hz' : sz ≠ 0 := fun e => by subst e; cases hz
    simp [execOp, ho, hx, Instr.fieldAt, Instr.sureAddr, fieldPlace, run_underlying hu, hf, hs', hz', add_mul_addr]
theorem Y.load {t : TypeId} {x : Operand} {td : TypeDesc} {a : Addr} {v : Value} (ho : o.op = .load t x) (hu : P.underlying t = some td) (hs : scalar td = true)
    (hx : ev F x = .pointer (some a)) (hc : ∀ w, Mem W0 w L → w.cell? a = some v) : ∀ w, Mem W0 w L → (execOp (ev F) o).run P w = .ok (.value v) w :=
  fun w hm => by
    have ha : ∀ w, (isAgg t).run P w = .ok false w := run_isAgg_no hu hs
    simp [execOp, ho, hx, Instr.loadAt, Instr.sureAddr, loadVar, ha, run_load, hc w hm]
theorem Y.sliceLH {t e : TypeId} {x lo up : Operand} {a : Option Addr} {len cap : Nat} {kl kh : IntKind} {l h : Int} {sz by_ : Nat} {z : Value} (ho : o.op = .slice t x (some lo) (some up) none) 
    (hu : P.underlying t = some (.slice e)) (hi : Inf P e sz by_ z) (hx : ev F x = .slice a len cap) (hl : ev F lo = .int kl l) (hh : ev F up = .int kh h) (hb : 0 ≤ l ∧ l ≤ h ∧ h ≤ cap) : ∀ w, (execOp (ev F) o).run P w = .ok (.value (.slice (cutA a cap l.toNat sz) (h.toNat - l.toNat) (cap - l.toNat))) w :=
  fun w => by
    have hs : ∀ w, (sizeOf e).run P w = .ok sz w := fun w => hi.run_size
    obtain ⟨h1, h2, h3⟩ := hb
    have h4 : 0 ≤ h := by omega
    have e1 : (h.toNat : Int) = h := by omega
    simp [execOp, ho, hx, hl, hh, Instr.sliceAt, Instr.slice, Instr.sliceBounds, run_underlying hu, run_sliceBound, hs, h1, h2, h3, h4, e1, cutA]
theorem Y.sliceH {t e : TypeId} {x up : Operand} {a : Option Addr} {len cap : Nat} {kh : IntKind} {h : Int} {sz by_ : Nat} {z : Value} (ho : o.op = .slice t x none (some up) none) 
    (hu : P.underlying t = some (.slice e)) (hi : Inf P e sz by_ z) (hx : ev F x = .slice a len cap) (hh : ev F up = .int kh h) (hb : 0 ≤ h ∧ h ≤ cap) : ∀ w, (execOp (ev F) o).run P w = .ok (.value (.slice a h.toNat cap)) w :=
  fun w => by
    have hs : ∀ w, (sizeOf e).run P w = .ok sz w := fun w => hi.run_size
    obtain ⟨h1, h3⟩ := hb
    have e0 : (a.map fun x => x.add 0) = a := by cases a <;> simp [Addr.add]
    simp [execOp, ho, hx, hh, Instr.sliceAt, Instr.slice, Instr.sliceBounds, run_underlying hu, run_sliceBound, hs, h1, h3, e0]
theorem Y.sliceL {t e : TypeId} {x lo : Operand} {a : Option Addr} {len cap : Nat} {kl : IntKind} {l : Int} {sz by_ : Nat} {z : Value} (ho : o.op = .slice t x (some lo) none none) 
    (hu : P.underlying t = some (.slice e)) (hi : Inf P e sz by_ z) (hx : ev F x = .slice a len cap) (hl : ev F lo = .int kl l) (hb : 0 ≤ l ∧ l ≤ len) : ∀ w, (execOp (ev F) o).run P w = .ok (.value (.slice (cutA a cap l.toNat sz) (len - l.toNat) (cap - l.toNat))) w :=
  fun w => by
    have hs : ∀ w, (sizeOf e).run P w = .ok sz w := fun w => hi.run_size
    obtain ⟨h1, h2⟩ := hb
    simp [execOp, ho, hx, hl, Instr.sliceAt, Instr.slice, Instr.sliceBounds, run_underlying hu, run_sliceBound, hs, h1, h2, cutA]
theorem Y.sliceArr {t e : TypeId} {x : Operand} {b off m : Nat} {sz by_ : Nat} {z : Value} (ho : o.op = .slice t x none none none) 
    (hu : P.underlying t = some (.array m e)) (hi : Inf P e sz by_ z) (hx : ev F x = .pointer (some ⟨b, off, none⟩)) (_h : True) : ∀ w, (execOp (ev F) o).run P w = .ok (.value (.slice (some ⟨b, off, none⟩) m m)) w :=
  fun w => by
    have hs : ∀ w, (sizeOf e).run P w = .ok sz w := fun w => hi.run_size
    simp [execOp, ho, hx, Instr.sliceAt, Instr.sureAddr, Instr.sliceBounds, run_underlying hu, hs, Addr.add]
theorem Y.sliceArrL {t e : TypeId} {x lo : Operand} {b off m : Nat} {kl : IntKind} {l : Int} {sz by_ : Nat} {z : Value} (ho : o.op = .slice t x (some lo) none none) 
    (hu : P.underlying t = some (.array m e)) (hi : Inf P e sz by_ z) (hx : ev F x = .pointer (some ⟨b, off, none⟩)) (hl : ev F lo = .int kl l) (hb : 0 ≤ l ∧ l < m) : ∀ w, (execOp (ev F) o).run P w = .ok (.value (.slice (some ⟨b, off + l.toNat * sz, none⟩) (m - l.toNat) (m - l.toNat))) w :=
  fun w => by
    have hs : ∀ w, (sizeOf e).run P w = .ok sz w := fun w => hi.run_size
    obtain ⟨h1, h2⟩ := hb
    have h3 : l ≤ (m : Int) := by omega
    have h4 : ¬ m = l.toNat := by omega
    simp [execOp, ho, hx, hl, Instr.sliceAt, Instr.sureAddr, Instr.sliceBounds, run_underlying hu, run_sliceBound, hs, h1, h3, h4, add_mul_addr]
theorem Y.sliceArrLH {t e : TypeId} {x lo up : Operand} {b off m : Nat} {kl kh : IntKind} {l h : Int} {sz by_ : Nat} {z : Value} (ho : o.op = .slice t x (some lo) (some up) none) 
    (hu : P.underlying t = some (.array m e)) (hi : Inf P e sz by_ z) (hx : ev F x = .pointer (some ⟨b, off, none⟩)) (hl : ev F lo = .int kl l) (hh : ev F up = .int kh h) (hb : 0 ≤ l ∧ l ≤ h ∧ h ≤ m ∧ l < m) : ∀ w, (execOp (ev F) o).run P w = .ok (.value (.slice (some ⟨b, off + l.toNat * sz, none⟩) (h.toNat - l.toNat) (m - l.toNat))) w :=
  fun w => by
    have hs : ∀ w, (sizeOf e).run P w = .ok sz w := fun w => hi.run_size
    obtain ⟨h1, h2, h3, h4⟩ := hb
    have h5 : 0 ≤ h := by omega
    have e1 : (h.toNat : Int) = h := by omega
    have h6 : ¬ m = l.toNat := by omega
    simp [execOp, ho, hx, hl, hh, Instr.sliceAt, Instr.sureAddr, Instr.sliceBounds, run_underlying hu, run_sliceBound, hs, h1, h2, h3, h5, e1, h6, add_mul_addr]
theorem Y.sliceArrH {t e : TypeId} {x up : Operand} {b off m : Nat} {kh : IntKind} {h : Int} {sz by_ : Nat} {z : Value} (ho : o.op = .slice t x none (some up) none) 
    (hu : P.underlying t = some (.array m e)) (hi : Inf P e sz by_ z) (hx : ev F x = .pointer (some ⟨b, off, none⟩)) (hh : ev F up = .int kh h) (hb : 0 ≤ h ∧ h ≤ m) : ∀ w, (execOp (ev F) o).run P w = .ok (.value (.slice (some ⟨b, off, none⟩) h.toNat m)) w :=
  fun w => by
    have hs : ∀ w, (sizeOf e).run P w = .ok sz w := fun w => hi.run_size
    obtain ⟨h1, h3⟩ := hb
    simp [execOp, ho, hx, hh, Instr.sliceAt, Instr.sureAddr, Instr.sliceBounds, run_underlying hu, run_sliceBound, hs, h1, h3, Addr.add]
theorem Y.strEq {t yt : TypeId} {x y : Operand} {a b : ByteArray} (ho : o.op = .binOp .eql t x y yt) (hx : ev F x = .string a) (hy : ev F y = .string b) : ∀ w, (execOp (ev F) o).run P w = .ok (.value (.bool (decide (a = b)))) w :=
  fun w => by simp [execOp, ho, hx, hy, eqGuard_plain, binOp, Op.stringOp, str_eq]
theorem Y.strNe {t yt : TypeId} {x y : Operand} {a b : ByteArray} (ho : o.op = .binOp .neq t x y yt) (hx : ev F x = .string a) (hy : ev F y = .string b) : ∀ w, (execOp (ev F) o).run P w = .ok (.value (.bool (decide (¬ a = b)))) w :=
  fun w => by simp [execOp, ho, hx, hy, eqGuard_plain, binOp, Op.stringOp, str_eq]
theorem Y.strAdd {t yt : TypeId} {x y : Operand} {a b : ByteArray} (ho : o.op = .binOp .add t x y yt) (hb : a.size + b.size ≤ 9223372036854775807) (hx : ev F x = .string a) (hy : ev F y = .string b) : ∀ w, (execOp (ev F) o).run P w = .ok (.value (.string (a ++ b))) w :=
  fun w => by
    have h : ¬ (((a.size + b.size : Nat) : Int) > IntKind.i64.max) := by
      have : IntKind.i64.max = 9223372036854775807 := by decide
      omega
    simp only [execOp, ho, hx, hy, eqGuard_plain, binOp, Op.stringOp, Sem.run_bind, h, if_false]
    rw [eqGuard_ne (by decide) (by decide)]
    rfl
theorem Y.boolEq {t yt : TypeId} {x y : Operand} {a b : Bool} (ho : o.op = .binOp .eql t x y yt) (hu : P.underlying t = some .bool) (hx : ev F x = .bool a) (hy : ev F y = .bool b) : ∀ w, (execOp (ev F) o).run P w = .ok (.value (.bool (a == b))) w :=
  fun w => by simp [execOp, ho, hx, hy, eqGuard_plain, binOp, run_equal_bool, hu]
theorem Y.boolNe {t yt : TypeId} {x y : Operand} {a b : Bool} (ho : o.op = .binOp .neq t x y yt) (hu : P.underlying t = some .bool) (hx : ev F x = .bool a) (hy : ev F y = .bool b) : ∀ w, (execOp (ev F) o).run P w = .ok (.value (.bool (!(a == b)))) w :=
  fun w => by simp [execOp, ho, hx, hy, eqGuard_plain, binOp, run_equal_bool, hu]
theorem Y.ptrEq {t yt e : TypeId} {x y : Operand} {p : Option Addr} (ho : o.op = .binOp .eql t x y yt) (hu : P.underlying t = some (.pointer e)) (hx : ev F x = .pointer p) (hy : ev F y = .pointer none) : ∀ w, (execOp (ev F) o).run P w = .ok (.value (.bool p.isNone)) w :=
  fun w => by simp [execOp, ho, hx, hy, eqGuard_plain, binOp, run_ptr_nil hu]
theorem Y.ptrNe {t yt e : TypeId} {x y : Operand} {p : Option Addr} (ho : o.op = .binOp .neq t x y yt) (hu : P.underlying t = some (.pointer e)) (hx : ev F x = .pointer p) (hy : ev F y = .pointer none) : ∀ w, (execOp (ev F) o).run P w = .ok (.value (.bool !p.isNone)) w :=
  fun w => by simp [execOp, ho, hx, hy, eqGuard_plain, binOp, run_ptr_nil hu]
theorem Y.slEq {t yt e : TypeId} {x y : Operand} {a : Option Addr} {l c : Nat} (ho : o.op = .binOp .eql t x y yt) (hu : P.underlying t = some (.slice e)) (hx : ev F x = .slice a l c) (hy : ev F y = .slice none 0 0) : ∀ w, (execOp (ev F) o).run P w = .ok (.value (.bool a.isNone)) w :=
  fun w => by simp [execOp, ho, hx, hy, eqGuard_plain, binOp, run_slice_nil hu]
theorem Y.slNe {t yt e : TypeId} {x y : Operand} {a : Option Addr} {l c : Nat} (ho : o.op = .binOp .neq t x y yt) (hu : P.underlying t = some (.slice e)) (hx : ev F x = .slice a l c) (hy : ev F y = .slice none 0 0) : ∀ w, (execOp (ev F) o).run P w = .ok (.value (.bool !a.isNone)) w :=
  fun w => by simp [execOp, ho, hx, hy, eqGuard_plain, binOp, run_slice_nil hu]
theorem Y.ifEq {t yt u : TypeId} {ms : Array (String × TypeId)} {x y : Operand} {v : Value} (ho : o.op = .binOp .eql t x y yt) (hu : P.underlying t = some (.interface ms)) (hx : ev F x = .iface u v) (hy : ev F y = .nilIface) : ∀ w, (execOp (ev F) o).run P w = .ok (.value (.bool false)) w :=
  fun w => by simp [execOp, ho, hx, hy, eqGuard_plain, binOp, run_iface_nil hu]
theorem Y.ifNe {t yt u : TypeId} {ms : Array (String × TypeId)} {x y : Operand} {v : Value} (ho : o.op = .binOp .neq t x y yt) (hu : P.underlying t = some (.interface ms)) (hx : ev F x = .iface u v) (hy : ev F y = .nilIface) : ∀ w, (execOp (ev F) o).run P w = .ok (.value (.bool true)) w :=
  fun w => by simp [execOp, ho, hx, hy, eqGuard_plain, binOp, run_iface_nil hu]
theorem Y.ifNil {t yt : TypeId} {ms : Array (String × TypeId)} {x : Operand} (ho : o.op = .binOp .eql t x (.const .nilIface) yt) (hu : P.underlying t = some (.interface ms)) (hx : ev F x = .nilIface) : ∀ w, (execOp (ev F) o).run P w = .ok (.value (.bool true)) w :=
  fun w => by
    have h : (eqGuard .eql t x (.const .nilIface) .nilIface .nilIface).run P w = .ok () w := by
      unfold eqGuard
      simp
    have he : ev F (.const .nilIface) = .nilIface := rfl
    simp [execOp, ho, hx, he, h, binOp, run_nil_nil hu]
theorem Y.loadAgg {t : TypeId} {x : Operand} {td : TypeDesc} {b off sz by_ : Nat} {z : Value} (vs : List Value) (ho : o.op = .load t x) (hu : P.underlying t = some td) (hs : scalar td = false) (hi : Inf P t sz by_ z)
    (hl : vs.length = sz) (hx : ev F x = .pointer (some ⟨b, off, none⟩)) (h : ∀ w, Mem W0 w L → ∀ j v, vs[j]? = some v → w.cell? ⟨b, off + j, none⟩ = some v) : ∀ w, Mem W0 w L → (execOp (ev F) o).run P w = .ok (.value (.agg vs.toArray)) w :=
  fun w hm => by
    simp only [execOp, ho, hx, Instr.loadAt, Instr.sureAddr, Sem.run_bind, Sem.run_pure, Result.andThen_ok, run_loadVar_agg hu hs hi hl (h w hm)]
theorem Y.build {t : TypeId} {parts : Array (Nat × Operand)} {fs : Array Field} {sz by_ : Nat} {z : Value} {cs : List Value} (ho : o.op = .build t parts) (hu : P.underlying t = some (.struct fs)) (hi : Inf P t sz by_ z)
    (places : Array (Nat × Nat)) (hp : ∀ w, (fs.mapM (m := Sem) fun f => do pure (f.offset, ← sizeOf f.type)).run P w = .ok places w)
    (hf : Instr.fill (places[·]?) z.cells (parts.map (fun (i, x) => (i, ev F x))).toList = some cs.toArray) : ∀ w, (execOp (ev F) o).run P w = .ok (.value (.agg cs.toArray)) w :=
  fun w => by
    have hz : ∀ w, (zeroValue t).run P w = .ok z w := fun w => hi.run_zero
    simp only [execOp, ho, Instr.build, Sem.run_bind, hz, Result.andThen_ok, run_underlying hu, hp, hf, Sem.run_pure]
theorem Y.field {t : TypeId} {x : Operand} {i : Nat} {fs : Array Field} {f : Field} {td : TypeDesc} {cs : Array Value} {v : Value} (ho : o.op = .field t x i) (hu : P.underlying t = some (.struct fs)) (hf : fs[i]? = some f)
    (huf : P.underlying f.type = some td) (hs : scalar td = true) (hx : ev F x = .agg cs) (hv : cs[f.offset]? = some v) : ∀ w, (execOp (ev F) o).run P w = .ok (.value v) w :=
  fun w => by
    have ha : ∀ w, (isAgg f.type).run P w = .ok false w := run_isAgg_no huf hs
    simp [execOp, ho, hx, Instr.field, run_underlying hu, hf, asAgg, part, ha, hv]
theorem Y.bytesStr {s t e : TypeId} {x : Operand} {a : Option Addr} {c l : Nat} (xs : List UInt8) (ho : o.op = .convert s t x) (hus : P.underlying s = some (.slice e)) (hue : P.underlying e = some (.int .u8)) (hut : P.underlying t = some .string)
    (hx : ev F x = .slice a l c) (hl : l = xs.length) (hrd : Rd W0 L a (bytesV xs)) : ∀ w, Mem W0 w L → (execOp (ev F) o).run P w = .ok (.value (.string (strB xs))) w :=
  fun w hm => by
    subst hl
    simp [execOp, ho, hx, run_convert_bytes_string w s t e _ _ _ hus hue hut, run_bytesStr (hrd.cells w hm) (fun h => by simpa using hrd.ne1 h)]
theorem Y.convStr {s t : TypeId} {x : Operand} {bs : ByteArray} (ho : o.op = .convert s t x) (hus : P.underlying s = some .string) (hut : P.underlying t = some .string) (hx : ev F x = .string bs) : ∀ w, (execOp (ev F) o).run P w = .ok (.value (.string bs)) w :=
  fun w => by simp [execOp, ho, hx, convert, run_underlying hus, run_underlying hut]
theorem Y.binE {op : BinOp} {t yt : TypeId} {x y : Operand} {kd : IntKind} {a b : Int} {v : Value} (v' : Value) (ho : o.op = .binOp op t x y yt) (hx : ev F x = .int kd a) (hy : ev F y = .int kd b) (hv : binI op kd a b = some v) (e : v = v') : ∀ w, (execOp (ev F) o).run P w = .ok (.value v') w := Y.bin ho hx hy (e ▸ hv)
theorem Y.add {t yt : TypeId} {x y : Operand} {a b : Int} (ho : o.op = .binOp .add t x y yt) (hx : ev F x = .int .i64 a) (hy : ev F y = .int .i64 b) (h : -9223372036854775808 ≤ a + b ∧ a + b ≤ 9223372036854775807) : ∀ w, (execOp (ev F) o).run P w = .ok (.value (.int .i64 (a + b))) w := Y.binE _ ho hx hy rfl (by rw [wrap_i64 h])
theorem Y.sub {t yt : TypeId} {x y : Operand} {a b : Int} (ho : o.op = .binOp .sub t x y yt) (hx : ev F x = .int .i64 a) (hy : ev F y = .int .i64 b) (h : -9223372036854775808 ≤ a - b ∧ a - b ≤ 9223372036854775807) : ∀ w, (execOp (ev F) o).run P w = .ok (.value (.int .i64 (a - b))) w := Y.binE _ ho hx hy rfl (by rw [wrap_i64 h])
theorem Y.mul {t yt : TypeId} {x y : Operand} {a b : Int} (ho : o.op = .binOp .mul t x y yt) (hx : ev F x = .int .i64 a) (hy : ev F y = .int .i64 b) (h : -9223372036854775808 ≤ a * b ∧ a * b ≤ 9223372036854775807) : ∀ w, (execOp (ev F) o).run P w = .ok (.value (.int .i64 (a * b))) w := Y.binE _ ho hx hy rfl (by rw [wrap_i64 h])
theorem Y.loadAt {t : TypeId} {x : Operand} {td : TypeDesc} {b i : Nat} {v : Value} {cs : List Value} {e : TypeId} {kk : Nat} {u : Nat → SObj → List Seg} (ha : At L b (.row cs e kk) u) (ho : o.op = .load t x) (hu : P.underlying t = some td) (hs : scalar td = true) (hx : ev F x = .pointer (some ⟨b, i, none⟩)) (hc : cs[i]? = some v) : ∀ w, Mem W0 w L → (execOp (ev F) o).run P w = .ok (.value v) w :=
  Y.load ho hu hs hx (fun _ hm => (hm.get ha).2.cell hc)
theorem Y.moveI {x : Operand} {kd : IntKind} {a : Int} (ho : o.op = .move x) (hx : ev F x = .int kd a) : ∀ w, (execOp (ev F) o).run P w = .ok (.value (.int kd a)) w := Y.mv _ (.inl ho) hx
theorem Y.assignI {x : Operand} {kd : IntKind} {a : Int} (ho : o.op = .assign x) (hx : ev F x = .int kd a) : ∀ w, (execOp (ev F) o).run P w = .ok (.value (.int kd a)) w := Y.mv _ (.inr ho) hx
theorem Y.moveB {x : Operand} {b : Bool} (ho : o.op = .move x) (hx : ev F x = .bool b) : ∀ w, (execOp (ev F) o).run P w = .ok (.value (.bool b)) w := Y.mv _ (.inl ho) hx
theorem Y.assignB {x : Operand} {b : Bool} (ho : o.op = .assign x) (hx : ev F x = .bool b) : ∀ w, (execOp (ev F) o).run P w = .ok (.value (.bool b)) w := Y.mv _ (.inr ho) hx
theorem Y.moveS {x : Operand} {a : Option Addr} {l c : Nat} (ho : o.op = .move x) (hx : ev F x = .slice a l c) : ∀ w, (execOp (ev F) o).run P w = .ok (.value (.slice a l c)) w := Y.mv _ (.inl ho) hx
theorem Y.assignS {x : Operand} {a : Option Addr} {l c : Nat} (ho : o.op = .assign x) (hx : ev F x = .slice a l c) : ∀ w, (execOp (ev F) o).run P w = .ok (.value (.slice a l c)) w := Y.mv _ (.inr ho) hx
theorem Y.moveP {x : Operand} {a : Option Addr} (ho : o.op = .move x) (hx : ev F x = .pointer a) : ∀ w, (execOp (ev F) o).run P w = .ok (.value (.pointer a)) w := Y.mv _ (.inl ho) hx
theorem Y.assignP {x : Operand} {a : Option Addr} (ho : o.op = .assign x) (hx : ev F x = .pointer a) : ∀ w, (execOp (ev F) o).run P w = .ok (.value (.pointer a)) w := Y.mv _ (.inr ho) hx
theorem Y.moveT {x : Operand} {s : ByteArray} (ho : o.op = .move x) (hx : ev F x = .string s) : ∀ w, (execOp (ev F) o).run P w = .ok (.value (.string s)) w := Y.mv _ (.inl ho) hx
theorem Y.assignT {x : Operand} {s : ByteArray} (ho : o.op = .assign x) (hx : ev F x = .string s) : ∀ w, (execOp (ev F) o).run P w = .ok (.value (.string s)) w := Y.mv _ (.inr ho) hx
theorem Y.moveU {x : Operand} {vs : Array Value} (ho : o.op = .move x) (hx : ev F x = .tuple vs) : ∀ w, (execOp (ev F) o).run P w = .ok (.value (.tuple vs)) w := Y.mv _ (.inl ho) hx
theorem Y.assignU {x : Operand} {vs : Array Value} (ho : o.op = .assign x) (hx : ev F x = .tuple vs) : ∀ w, (execOp (ev F) o).run P w = .ok (.value (.tuple vs)) w := Y.mv _ (.inr ho) hx
theorem Y.moveF {x : Operand} {fn : Fn} {vs us : Array Value} (ho : o.op = .move x) (hx : ev F x = .func fn vs us) : ∀ w, (execOp (ev F) o).run P w = .ok (.value (.func fn vs us)) w := Y.mv _ (.inl ho) hx
theorem Y.assignF {x : Operand} {fn : Fn} {vs us : Array Value} (ho : o.op = .assign x) (hx : ev F x = .func fn vs us) : ∀ w, (execOp (ev F) o).run P w = .ok (.value (.func fn vs us)) w := Y.mv _ (.inr ho) hx
theorem Y.moveM {x : Operand} {r : Option Nat} (ho : o.op = .move x) (hx : ev F x = .map r) : ∀ w, (execOp (ev F) o).run P w = .ok (.value (.map r)) w := Y.mv _ (.inl ho) hx
theorem Y.assignM {x : Operand} {r : Option Nat} (ho : o.op = .assign x) (hx : ev F x = .map r) : ∀ w, (execOp (ev F) o).run P w = .ok (.value (.map r)) w := Y.mv _ (.inr ho) hx
theorem Y.moveG {x : Operand} {cs : Array Value} (ho : o.op = .move x) (hx : ev F x = .agg cs) : ∀ w, (execOp (ev F) o).run P w = .ok (.value (.agg cs)) w := Y.mv _ (.inl ho) hx
theorem Y.assignG {x : Operand} {cs : Array Value} (ho : o.op = .assign x) (hx : ev F x = .agg cs) : ∀ w, (execOp (ev F) o).run P w = .ok (.value (.agg cs)) w := Y.mv _ (.inr ho) hx
theorem Y.moveW {x : Operand} {t : TypeId} {v : Value} (ho : o.op = .move x) (hx : ev F x = .iface t v) : ∀ w, (execOp (ev F) o).run P w = .ok (.value (.iface t v)) w := Y.mv _ (.inl ho) hx
theorem Y.assignW {x : Operand} {t : TypeId} {v : Value} (ho : o.op = .assign x) (hx : ev F x = .iface t v) : ∀ w, (execOp (ev F) o).run P w = .ok (.value (.iface t v)) w := Y.mv _ (.inr ho) hx
theorem Y.move {x : Operand} (v : Value) (ho : o.op = .move x) (hx : ev F x = v) : ∀ w, (execOp (ev F) o).run P w = .ok (.value v) w := Y.mv v (.inl ho) hx
theorem Y.assign {x : Operand} (v : Value) (ho : o.op = .assign x) (hx : ev F x = v) : ∀ w, (execOp (ev F) o).run P w = .ok (.value v) w := Y.mv v (.inr ho) hx
end rules
end Go.SL
/-
  From what a row's frame tells of the slices that came in to what the walks ask of them; a function that hands back nothing new; appending onto nothing.
-/
namespace Go.SL
open Go Go.RowKit

theorem row_cells {k : IntKind} {W : World} {a : Option Addr} {len cap : Nat} {zs : List Int}
    (h : (a = none ∧ len = 0 ∧ cap = 0 ∧ zs = []) ∨ ∃ x, a = some x ∧ len ≤ cap ∧ cap ≤ maxLen ∧ zs.length = cap ∧ (∀ i, i < zs.length → W.cell? (x.add i) = some (.int k (zs.getD i 0))) ∧ ∀ n ∈ zs, (Lit.int k n).wf = true) :
    len ≤ cap ∧ cap ≤ maxLen ∧ (zs.take len).length = len ∧ (∀ n ∈ zs.take len, (Lit.int k n).wf = true) ∧ ∀ L, Rd W L a ((zs.take len).map (Value.int k)) := by
  rcases h with ⟨rfl, rfl, rfl, rfl⟩ | ⟨x, rfl, hl, hm, hz, hc, hw⟩
  · exact ⟨Nat.le_refl _, by simp, rfl, by simp, fun L => Rd.nil⟩
  · have hlen : (zs.take len).length = len := by simp; omega
    refine ⟨hl, hm, hlen, fun n hn => hw n (List.mem_of_mem_take hn), fun L => ?_⟩
    rcases Nat.eq_zero_or_pos len with h0 | h0
    · subst h0; exact Rd.nil
    · have h1 := hc 0 (by omega)
      have hsp : (x.add 0).spot = none := by
        simpa using World.cell?_spot h1
      obtain ⟨b, off, spot⟩ := x
      have hspot : spot = none := by simpa [Addr.add] using hsp
      subst hspot
      refine Rd.old fun j hj => ?_
      simp only [List.length_map, hlen] at hj
      have h2 := hc j (by omega)
      rw [add_mul_addr] at h2
      have h4 : j < zs.length := by omega
      rw [h2]
      simp [List.getElem?_take, hj, List.getElem?_eq_getElem h4, List.getD]
theorem row_bytes {W : World} {a : Option Addr} {len cap : Nat} {zs : List Int}
    (h : (a = none ∧ len = 0 ∧ cap = 0 ∧ zs = []) ∨ ∃ x, a = some x ∧ len ≤ cap ∧ cap ≤ maxLen ∧ zs.length = cap ∧ (∀ i, i < zs.length → W.cell? (x.add i) = some (.int .u8 (zs.getD i 0))) ∧ ∀ n ∈ zs, (Lit.int .u8 n).wf = true) :
    ∃ xs : List UInt8, len = xs.length ∧ len ≤ cap ∧ cap ≤ maxLen ∧ ∀ L, Rd W L a (bytesV xs) := by
  obtain ⟨h1, h2, h3, h4, h5⟩ := row_cells h
  refine ⟨(zs.take len).map (fun n => UInt8.ofNat n.toNat), by simpa using h3.symm, h1, h2, fun L => ?_⟩
  have e : bytesV ((zs.take len).map (fun n => UInt8.ofNat n.toNat)) = (zs.take len).map (Value.int .u8) := by
    unfold bytesV
    rw [List.map_map]
    refine List.map_congr_left fun n hn => ?_
    have hw := h4 n hn
    have hb : 0 ≤ n ∧ n < 256 := by
      simp [Lit.wf, IntKind.min, IntKind.max, IntKind.signed, IntKind.bits] at hw
      omega
    simp only [Function.comp, byteV]
    congr 1
    simp
    omega
  rw [e]
  exact h5 L
theorem row_ints {W : World} {a : Option Addr} {len cap : Nat} {zs : List Int}
    (h : (a = none ∧ len = 0 ∧ cap = 0 ∧ zs = []) ∨ ∃ x, a = some x ∧ len ≤ cap ∧ cap ≤ maxLen ∧ zs.length = cap ∧ (∀ i, i < zs.length → W.cell? (x.add i) = some (.int .i64 (zs.getD i 0))) ∧ ∀ n ∈ zs, (Lit.int .i64 n).wf = true) :
    ∃ xs : List Int, len = xs.length ∧ len ≤ cap ∧ cap ≤ maxLen ∧ (∀ n ∈ xs, -9223372036854775808 ≤ n ∧ n ≤ 9223372036854775807) ∧ ∀ L, Rd W L a (xs.map (Value.int .i64)) := by
  obtain ⟨h1, h2, h3, h4, h5⟩ := row_cells h
  refine ⟨zs.take len, h3.symm, h1, h2, fun n hn => ?_, h5⟩
  have hw := h4 n hn
  simp [Lit.wf, IntKind.min, IntKind.max, IntKind.signed, IntKind.bits] at hw
  omega
theorem wf_i64 {n : Int} (h : (Lit.int .i64 n).wf = true) : -9223372036854775808 ≤ n ∧ n ≤ 9223372036854775807 := by
  simp [Lit.wf, IntKind.min, IntKind.max, IntKind.signed, IntKind.bits] at h
  omega
/-- a law that comes to true: what the row's frame asks -/
theorem law_true {P : Program} {W : World} {f : FuncId} {args : Array Value} (h : FnS P W f args [] (fun e _ => e = .returned (.bool true))) : Calls P f args W fun e w' => e = .returned (.bool true) ∧ Below W.heap.size W w' :=
  (h W (Mem.start W)).mono fun _ _ ⟨_, h1, h2⟩ => ⟨h2, h1.below⟩

section rules
variable {P : Program} {W0 : World} {n : Nat} {SQ : SPost} {F : Nat → Value} {D : List Deferred} {L : List Seg} {ops : Array Oper} {rest : List Oper} {o : Oper}
theorem Mem.empty {w : World} (h : Mem W0 w L) : Mem W0 w ([] :: L) := h.of_flat (by simp)
theorem G.appendNil {x : Operand} {t t2 e e2 : TypeId} {a : Option Addr} {m c sz by_ : Nat} {z : Value} {vs : List Value}
    (ho : o.op = .call { callee := .builtin .append, args := #[.const (.slice none 0 0), x], argTypes := #[t, t2] }) (hr : runs n ops F o) {d : Nat} (hd : o.dst = some d) (hn : Nat.blt d n = true)
    (hu : P.underlying t = some (.slice e)) (hu2 : P.underlying t2 = some (.slice e2)) (hi : Inf P e sz by_ z) (hz : z.cells.size = sz) (hby : 0 < by_)
    (hx : ev F x = .slice a m c) (hsz0 : 0 < sz) (hrd : Rd W0 L a vs) (hvs : vs.length = m * sz) (hv : ∀ u ∈ vs, cellsOk u = true) (hb : m * by_ ≤ 140737488355328)
    (k : ∀ v' seg', OwnS v' m vs e sz seg' → G P W0 n SQ ops rest (upd F d v') D (seg' :: L)) : G P W0 n SQ ops (o :: rest) F D L :=
  G.less (fun _ h => h.empty) (G.append (OwnS.nil e sz) ho hr hd hn hu hu2 hi hz hby rfl hx hsz0 hrd.cons hvs hv (by simpa using hb) (fun v' seg' h => k v' seg' (by simpa using h)))
theorem zeroBytes (m : Nat) : zeroRow (.int .u8 0) m 1 = bytesV (List.replicate m 0) := by
  rw [zeroRow_one rfl]; simp [bytesV, byteV]
theorem G.makeBytes {t e : TypeId} {x y : Operand} {kl kc : IntKind} {l c by_ : Nat} (ho : o.op = .makeSlice t x y) (hr : runs n ops F o) {d : Nat} (hd : o.dst = some d) (hn : Nat.blt d n = true)
    (hu : P.underlying t = some (.slice e)) (hi : Inf P e 1 by_ (.int .u8 0)) (hx : ev F x = .int kl (l : Int)) (hy : ev F y = .int kc (c : Int)) (h : l ≤ c ∧ by_ * c ≤ 281474976710656 ∧ c ≤ 9223372036854775807)
    (k : ∀ b, G P W0 n SQ ops rest (upd F d (.slice (some ⟨b, 0, none⟩) l c)) D ([(b, .row (bytesV (List.replicate c 0)) e c)] :: L)) : G P W0 n SQ ops (o :: rest) F D L :=
  G.makeSlice ho hr hd hn hu hi rfl hx hy ⟨by omega, by omega, by have := h.2.1; rw [← Int.natCast_mul]; omega, by omega⟩ (fun b => by
    have := k b
    simpa [zeroBytes] using this)
end rules
end Go.SL
/-
  Rules for deferred calls, panics and recover: what a function that defers leaves with; what a deferred function does to the panic under it. No program in sight.
-/
namespace Go.SL
open Go Go.RowKit

/-! ### Results that lie in cells -/
def rv (tmps : Array Value) : ResultVar → Sem Value
  | .tmp t => pure (tmps.getD t undef)
  | .cell a t => do loadVar t (← asAddr (tmps.getD a undef))
def RV (P : Program) (W0 : World) (n : Nat) (F : Nat → Value) (L : List Seg) (r : ResultVar) (v : Value) : Prop :=
  ∀ a w, Sl n a F → Mem W0 w L → (rv a.tmps r).run P w = .ok v w
section
variable {P : Program} {W0 : World} {n : Nat} {F : Nat → Value} {L : List Seg} {fn : Func}
theorem RV.tmp {t : Nat} {v : Value} (h : F t = v) : RV P W0 n F L (.tmp t) v := by
  intro a w hs _
  simp [rv, hs.at_, h]
theorem RV.cell {x t b i : Nat} {td : TypeDesc} {v : Value} {cs : List Value} {e : TypeId} {kk : Nat} {u : Nat → SObj → List Seg} (ha : At L b (.row cs e kk) u) (hx : F x = .pointer (some ⟨b, i, none⟩)) (hu : P.underlying t = some td) (hs : scalar td = true) (hc : cs[i]? = some v) : RV P W0 n F L (.cell x t) v := by
  intro a w h hm
  have hg : ∀ w, (isAgg t).run P w = .ok false w := run_isAgg_no hu hs
  have h1 := (hm.get ha).2.cell hc
  have h2 := h.at_ x
  rw [hx] at h2
  simp only [rv, h2]
  simp [asAddr, loadVar, hg, run_load, h1]
theorem RV.agg {x t b off sz by_ : Nat} {td : TypeDesc} {z : Value} {vs cs : List Value} {e : TypeId} {kk : Nat} {u : Nat → SObj → List Seg} (ha : At L b (.row cs e kk) u) (hx : F x = .pointer (some ⟨b, off, none⟩)) (hu : P.underlying t = some td) (hs : scalar td = false) (hi : Inf P t sz by_ z)
    (hl : vs.length = sz) (hv : ∀ j v, vs[j]? = some v → cs[off + j]? = some v) : RV P W0 n F L (.cell x t) (.agg vs.toArray) := by
  intro a w h hm
  have h2 := h.at_ x
  rw [hx] at h2
  have h3 := run_loadVar_agg hu hs hi hl (fun j v hj => agg_of_row hm ha hv j v hj)
  simp only [rv, h2]
  simp [asAddr, h3]
theorem Res.one {r : ResultVar} {v : Value} (h : fn.results = #[r]) (h1 : RV P W0 fn.ntmps F L r v) : Res P W0 fn F L v := by
  intro a w hs hm
  have e : results fn a.tmps = (do let vs ← fn.results.mapM (rv a.tmps); pure (if h : vs.size = 1 then vs[0] else .tuple vs)) := rfl
  rw [e, h]
  simp [h1 a w hs hm]
theorem Res.two {r s : ResultVar} {v u : Value} (h : fn.results = #[r, s]) (h1 : RV P W0 fn.ntmps F L r v) (h2 : RV P W0 fn.ntmps F L s u) : Res P W0 fn F L (.tuple #[v, u]) := by
  intro a w hs hm
  have e : results fn a.tmps = (do let vs ← fn.results.mapM (rv a.tmps); pure (if h : vs.size = 1 then vs[0] else .tuple vs)) := rfl
  rw [e, h]
  simp [h1 a w hs hm, h2 a w hs hm]
theorem Res.three {r s t : ResultVar} {v u x : Value} (h : fn.results = #[r, s, t]) (h1 : RV P W0 fn.ntmps F L r v) (h2 : RV P W0 fn.ntmps F L s u) (h3 : RV P W0 fn.ntmps F L t x) : Res P W0 fn F L (.tuple #[v, u, x]) := by
  intro a w hs hm
  have e : results fn a.tmps = (do let vs ← fn.results.mapM (rv a.tmps); pure (if h : vs.size = 1 then vs[0] else .tuple vs)) := rfl
  rw [e, h]
  simp [h1 a w hs hm, h2 a w hs hm, h3 a w hs hm]
end

/-! ### Leaving by way of the deferred calls -/
def Lv (P : Program) (W0 : World) (fn : Func) (F : Nat → Value) (R : Ending → List Seg → Prop) (D : List Deferred) (u : FrameMode) (L : List Seg) : Prop :=
  ∀ a w, Sl fn.ntmps a F → Mem W0 w L → Leaves P fn a.tmps (fun e w' => ∃ L', Mem W0 w' L' ∧ R e L') D u w
def DfS (P : Program) (W0 : World) (f : FuncId) (args : Array Value) (u : FrameMode) (L : List Seg) (R : Ending → FrameMode → List Seg → Prop) : Prop :=
  ∀ w, Mem W0 w L → CallsD P f args u w fun e u' w' => ∃ L', Mem W0 w' L' ∧ R e u' L'
def retPostD (P : Program) (W0 : World) (fn : Func) (R : Ending → List Seg → Prop) : SPost
  | .normal, F, D, L | .ret, F, D, L => Lv P W0 fn F R D .returning L
  | .panic chain, F, D, L => Lv P W0 fn F R D (.panicking chain) L
  | _, _, _, _ => False
section
variable {P : Program} {W0 : World} {fn : Func} {F : Nat → Value} {R : Ending → List Seg → Prop} {L : List Seg}
theorem Lv.ret {v : Value} (hv : Res P W0 fn F L v) (hR : R (.returned v) L) : Lv P W0 fn F R [] .returning L :=
  fun a w hs hm => ⟨v, hv a w hs hm, L, hm, hR⟩
theorem Lv.retL {v : Value} {L' : List Seg} (hv : Res P W0 fn F L v) (hs : ∀ w, Mem W0 w L → Mem W0 w L') (hR : R (.returned v) L') : Lv P W0 fn F R [] .returning L :=
  fun a w h hm => ⟨v, hv a w h hm, L', hs w hm, hR⟩
theorem Lv.panic {chain : List PanicEntry} (hR : R (.panicked chain) L) : Lv P W0 fn F R [] (.panicking chain) L :=
  fun _ _ _ hm => ⟨L, hm, hR⟩
theorem Lv.cons {f : FuncId} {cap dargs : Array Value} {ds : List Deferred} {u : FrameMode} {args : List Value} {Rd : Ending → FrameMode → List Seg → Prop} (hu : u ≠ .run) (he : Enters P f)
    (hf : DfS P W0 f args.toArray u L Rd) (hargs : dargs.toList ++ cap.toList = args)
    (k : ∀ e u' L', Rd e u' L' → match e with
      | .returned _ => Lv P W0 fn F R ds (settle u') L'
      | .panicked chain => Lv P W0 fn F R ds (raised u' chain) L'
      | .outgrown => False) : Lv P W0 fn F R ({ target := .fn (.func f) cap, args := dargs } :: ds) u L := by
  intro a w hs hm
  have hargs' : dargs ++ cap = args.toArray := by rw [← hargs]; apply Array.ext'; simp
  refine leaves_cons hu (f := f) (args := args.toArray) (by simp only [invoke, hargs']; exact he args.toArray w) ((hf w hm).mono ?_)
  rintro e u' w' ⟨L', h1, h2⟩
  have h3 := k e u' L' h2
  cases e with
  | returned v => exact h3 a w' hs h1
  | panicked ch => exact h3 a w' hs h1
  | outgrown => exact h3.elim
theorem Lv.less {L' : List Seg} {D : List Deferred} {u : FrameMode} (hs : ∀ w, Mem W0 w L → Mem W0 w L') (k : Lv P W0 fn F R D u L') : Lv P W0 fn F R D u L := fun a w h hm => k a w h (hs w hm)
theorem args_sl {fn : Func} {args : List Value} (hn : Nat.ble args.length fn.ntmps = true) : Sl fn.ntmps { tmps := args.toArray ++ Array.replicate (fn.ntmps - args.toArray.size) undef, defers := [] } (argF args) := by
  refine ⟨?_, fun t => ?_⟩
  · have := Nat.le_of_ble_eq_true hn
    simp only [Array.size_append, List.size_toArray, Array.size_replicate]
    omega
  · rw [← argF_at args (fn.ntmps - args.toArray.size) t]
    simp only [Array.getD_eq_getD_getElem?]
    congr 1
    rw [← Array.getElem?_toList]
    simp
theorem FnS.ofD {f : FuncId} {c : Code} {args : List Value} (hf : P.funcs[f]? = some fn) (hb : fn.body = some c) (hn : Nat.ble args.length fn.ntmps = true)
    (h : C P W0 fn.ntmps (retPostD P W0 fn R) c (argF args) [] L) : FnS P W0 f args.toArray L R := by
  intro w hm
  refine calls_of_wp_defers hf hb (Code.wp_mono ?_ (h _ w (args_sl hn) rfl hm))
  rintro e a' w' ⟨F', L', h1, h2, h3⟩
  cases e with
  | normal => exact h3 a' w' h1 h2
  | ret => exact h3 a' w' h1 h2
  | panic ch => exact h3 a' w' h1 h2
  | exit id => exact h3.elim
  | goto l => exact h3.elim
  | outgrown => exact h3.elim
/-- a deferred function that does not recover -/
theorem DfS.of {f : FuncId} {c : Code} {args : List Value} {u : FrameMode} (hf : P.funcs[f]? = some fn) (hb : fn.body = some c) (hn : Nat.ble args.length fn.ntmps = true)
    (h : C P W0 fn.ntmps (retPost P W0 fn R) c (argF args) [] L) : DfS P W0 f args.toArray u L (fun e u' L' => u' = u ∧ R e L') := by
  intro w hm
  refine (callsD_of_wp (R := fun e w' => ∃ L', Mem W0 w' L' ∧ R e L') hf hb (Code.wp_mono ?_ (h _ w (args_sl hn) rfl hm))).mono ?_
  · rintro e a' w' ⟨F', L', h1, h2, h3⟩
    cases e with
    | normal =>
      obtain ⟨hd, v, hv, hR⟩ := h3
      exact ⟨hd, v, hv _ _ h1 h2, L', h2, hR⟩
    | ret =>
      obtain ⟨hd, v, hv, hR⟩ := h3
      exact ⟨hd, v, hv _ _ h1 h2, L', h2, hR⟩
    | panic ch =>
      obtain ⟨hd, hR⟩ := h3
      exact ⟨hd, L', h2, hR⟩
    | exit id => exact h3.elim
    | goto l => exact h3.elim
    | outgrown => exact h3.elim
  · rintro e u' w' ⟨h1, L', h2, h3⟩
    exact ⟨L', h2, h1, h3⟩
end

/-- fewer blocks, in the same order -/
theorem Mem.fewer {W0 w : World} {L L' : List Seg} (h : Mem W0 w L) (hs : L'.flatten.Sublist L.flatten) : Mem W0 w L' :=
  ⟨h.below, (hs.map _).nodup h.nodup, fun p hp => h.holds p (hs.subset hp)⟩
theorem Mem.skip1 {W0 w : World} {s t : Seg} {L : List Seg} (h : Mem W0 w (s :: t :: L)) : Mem W0 w (s :: L) :=
  h.fewer (by simp only [List.flatten_cons]; exact (List.sublist_append_right t L.flatten).append_left s)
theorem FnS.drop {P : Program} {W0 : World} {f : FuncId} {args : Array Value} {L : List Seg} {R R' : Ending → List Seg → Prop} (h : FnS P W0 f args L R)
    (hr : ∀ e L', R e L' → ∃ L2, (∀ w, Mem W0 w L' → Mem W0 w L2) ∧ R' e L2) : FnS P W0 f args L R' :=
  fun w hm => (h w hm).mono fun e _ ⟨L', h1, h2⟩ => let ⟨L2, h3, h4⟩ := hr e L' h2; ⟨L2, h3 _ h1, h4⟩

/-! ### A deferred function that recovers -/
abbrev DPost := Exit → (Nat → Value) → List Deferred → List Seg → FrameMode → Prop
def liftS (W0 : World) (n : Nat) (SQ : DPost) (c0 : Frame) (cs : List Frame) : Exit → Act → List Frame → World → Prop :=
  fun e a cs' w => ∃ F L u', Sl n a F ∧ Mem W0 w L ∧ cs' = { c0 with mode := u' } :: cs ∧ SQ e F a.defers L u'
def CS (P : Program) (W0 : World) (n : Nat) (SQ : DPost) (c : Code) (u : FrameMode) (F : Nat → Value) (D : List Deferred) (L : List Seg) : Prop :=
  ∀ (c0 : Frame) (cs : List Frame) a w, Sl n a F → a.defers = D → Mem W0 w L → c.wpS P (liftS W0 n SQ c0 cs) a ({ c0 with mode := u } :: cs) w
/-- the operations of a region from the k-th on -/
def GS (P : Program) (W0 : World) (n : Nat) (SQ : DPost) (ops : Array Oper) (k : Nat) (rest : List Oper) (u : FrameMode) (F : Nat → Value) (D : List Deferred) (L : List Seg) : Prop :=
  (∀ j, rest[j]? = ops[k + j]?) → ∀ (c0 : Frame) (cs : List Frame) a w, Sl n a F → a.defers = D → Mem W0 w L → wpOpsS P ops (liftS W0 n SQ c0 cs) (List.range' k rest.length) a ({ c0 with mode := u } :: cs) w
def DPost.seq (K : (Nat → Value) → List Deferred → List Seg → FrameMode → Prop) (SQ : DPost) : DPost
  | .normal, F, D, L, u => K F D L u
  | e, F, D, L, u => SQ e F D L u
def dretPost (P : Program) (W0 : World) (fn : Func) (R : Ending → FrameMode → List Seg → Prop) : DPost
  | .normal, F, D, L, u | .ret, F, D, L, u => D = [] ∧ ∃ v, Res P W0 fn F L v ∧ R (.returned v) u L
  | .panic chain, _, D, L, u => D = [] ∧ R (.panicked chain) u L
  | _, _, _, _, _ => False
section
variable {P : Program} {W0 : World} {n : Nat} {SQ : DPost} {u : FrameMode} {F : Nat → Value} {D : List Deferred} {L : List Seg}
theorem CS.ofC {c : Code} (h : C P W0 n (fun e F D L => SQ e F D L u) c F D L) : CS P W0 n SQ c u F D L := by
  intro c0 cs a w hs hd hm
  refine wpS_of_wp (Code.wp_mono ?_ (h a w hs hd hm))
  rintro e a' w' ⟨F', L', h1, h2, h3⟩
  exact ⟨F', L', u, h1, h2, rfl, h3⟩
theorem CS.seq {x y : Code} (h : CS P W0 n (DPost.seq (fun F D L u => CS P W0 n SQ y u F D L) SQ) x u F D L) : CS P W0 n SQ (.seq x y) u F D L := by
  intro c0 cs a w hs hd hm
  refine wpS_seq ?_
  intro b k hb hr
  obtain ⟨e, a', cs', w', ⟨F', L', u', h1, h2, rfl, h3⟩, harr⟩ := h c0 cs a w hs hd hm b k hb hr
  refine ⟨e, a', _, w', ?_, harr⟩
  cases e with
  | normal => exact h3 c0 cs a' w' h1 rfl h2
  | exit id => exact ⟨F', L', u', h1, h2, rfl, h3⟩
  | goto l => exact ⟨F', L', u', h1, h2, rfl, h3⟩
  | ret => exact ⟨F', L', u', h1, h2, rfl, h3⟩
  | panic ch => exact ⟨F', L', u', h1, h2, rfl, h3⟩
  | outgrown => exact ⟨F', L', u', h1, h2, rfl, h3⟩
theorem CS.condB {c : Operand} {x y : Code} (b : Bool) (hc : ev F c = .bool b) (ht : b = true → CS P W0 n SQ x u F D L) (hf : b = false → CS P W0 n SQ y u F D L) : CS P W0 n SQ (.cond c x y) u F D L := by
  intro c0 cs a w hs hd hm
  refine wpS_cond (t := b) (by rw [hs.eval]; exact hc) ?_
  cases b with
  | true => exact ht rfl c0 cs a w hs hd hm
  | false => exact hf rfl c0 cs a w hs hd hm
theorem CS.condT {c : Operand} {x y : Code} (hc : ev F c = .bool true) (ht : CS P W0 n SQ x u F D L) : CS P W0 n SQ (.cond c x y) u F D L := CS.condB true hc (fun _ => ht) (fun h => by cases h)
theorem CS.condF {c : Operand} {x y : Code} (hc : ev F c = .bool false) (hf : CS P W0 n SQ y u F D L) : CS P W0 n SQ (.cond c x y) u F D L := CS.condB false hc (fun h => by cases h) (fun _ => hf)
theorem CS.region {id : Nat} {l : List Oper} (h : GS P W0 n SQ l.toArray 0 l u F D L) : CS P W0 n SQ (.region id l.toArray false) u F D L := by
  intro c0 cs a w hs hd hm
  refine wpS_region ?_
  have := h (by simp) c0 cs a w hs hd hm
  rwa [List.range_eq_range', List.size_toArray]
theorem GS.ofG {ops : Array Oper} {k : Nat} {rest : List Oper} (hno : ∀ F D L, ¬ SQ .outgrown F D L u) (h : G P W0 n (fun e F D L => SQ e F D L u) ops rest F D L) : GS P W0 n SQ ops k rest u F D L := by
  intro hk c0 cs a w hs hd hm
  have h0 := h a w hs hd hm
  clear h hs hd hm
  have hlet : ¬ LetsOut (lift W0 n (fun e F D L => SQ e F D L u)) := by
    rintro ⟨a, w, F', L', _, _, h3⟩
    exact hno _ _ _ h3
  induction rest generalizing a w k with
  | nil =>
    obtain ⟨F', L', h1, h2, h3⟩ := h0
    exact ⟨F', L', u, h1, h2, rfl, h3⟩
  | cons o rest ih =>
    have ho : ops[k]? = some o := by simpa using (hk 0).symm
    have ih' := fun a w => ih (k := k + 1) (fun j => by have := hk (j + 1); simpa [Nat.add_assoc, Nat.add_comm 1 j] using this) a w
    simp only [List.length_cons, List.range'_succ, wpOpsS, ho]
    unfold wpList at h0
    split at h0
    · rename_i hw
      rw [if_pos hw]
      rcases h0 with h0 | h0
      · unfold Oper.wp at h0
        generalize (execOp a.eval o).run P w = r at h0 ⊢
        cases r with
        | ok x w' =>
          cases x <;> simp only [Oper.upon] at h0 ⊢
          case value v => exact ih' _ _ h0
          case skip => exact ih' _ _ h0
          case defer d => exact ih' _ _ h0
          case enter f args =>
            refine h0.mono ?_
            intro e w' h
            cases e with
            | returned v => exact ih' _ _ h
            | panicked ch =>
              obtain ⟨F', L', h1, h2, h3⟩ := h
              exact ⟨F', L', u, h1, h2, rfl, h3⟩
            | outgrown => exact absurd h hlet
          case row rw args => exact h0.mono fun v w' h => ih' _ _ h
        | halt x w' =>
          cases x <;> simp only [Oper.upon] at h0 ⊢
          case panic v =>
            obtain ⟨F', L', h1, h2, h3⟩ := h0
            exact ⟨F', L', u, h1, h2, rfl, h3⟩
      · exact absurd h0.2 hlet
    · rename_i hw
      rw [if_neg hw]
      exact ih' _ _ h0
/-- a panic is caught -/
theorem GS.catches {ops : Array Oper} {k : Nat} {o : Oper} {rest : List Oper} {v : Value} {older : List PanicEntry} {d : Nat} (ho : o.op = .call { callee := .builtin .recover, args := #[], argTypes := #[] }) (hg : o.guard = none) (hd : o.dst = some d) (hn : Nat.blt d n = true)
    (h : GS P W0 n SQ ops (k + 1) rest (.panicking ({ v, recovered := true } :: older)) (upd F d v) D L) : GS P W0 n SQ ops k (o :: rest) (.panicking ({ v, recovered := false } :: older)) F D L := by
  intro hk c0 cs a w hs hD hm
  have hok : ops[k]? = some o := by simpa using (hk 0).symm
  simp only [List.length_cons, List.range'_succ, wpOpsS, hok]
  rw [if_pos (by simp [Region.wanted, hg])]
  have hr : (execOp a.eval o).run P w = .ok .recover w := by simp [execOp, ho, resolve, invoke, builtin]
  simp only [hr, recoverD]
  exact h (fun j => by have := hk (j + 1); simpa [Nat.add_assoc, Nat.add_comm 1 j] using this) c0 cs _ w (hs.put hd hn v) (by rw [put_defers]; exact hD) hm
/-- there is none to catch -/
theorem GS.none {ops : Array Oper} {k : Nat} {o : Oper} {rest : List Oper} {d : Nat} (ho : o.op = .call { callee := .builtin .recover, args := #[], argTypes := #[] }) (hg : o.guard = none) (hd : o.dst = some d) (hn : Nat.blt d n = true)
    (h : GS P W0 n SQ ops (k + 1) rest .returning (upd F d .nilIface) D L) : GS P W0 n SQ ops k (o :: rest) .returning F D L := by
  intro hk c0 cs a w hs hD hm
  have hok : ops[k]? = some o := by simpa using (hk 0).symm
  simp only [List.length_cons, List.range'_succ, wpOpsS, hok]
  rw [if_pos (by simp [Region.wanted, hg])]
  have hr : (execOp a.eval o).run P w = .ok .recover w := by simp [execOp, ho, resolve, invoke, builtin]
  simp only [hr, recoverD]
  exact h (fun j => by have := hk (j + 1); simpa [Nat.add_assoc, Nat.add_comm 1 j] using this) c0 cs _ w (hs.put hd hn _) (by rw [put_defers]; exact hD) hm
theorem DfS.ofS {fn : Func} {f : FuncId} {c : Code} {args : List Value} {R : Ending → FrameMode → List Seg → Prop} (hf : P.funcs[f]? = some fn) (hb : fn.body = some c) (hn : Nat.ble args.length fn.ntmps = true)
    (h : CS P W0 fn.ntmps (dretPost P W0 fn R) c u (argF args) [] L) : DfS P W0 f args.toArray u L R := by
  intro w hm
  refine callsD_of_wpS hf hb ?_
  intro c0 cs hu b k hb' hr
  have hc : ({ c0 with mode := u } : Frame) = c0 := by subst hu; rfl
  have h0 := h c0 cs _ w (args_sl hn) rfl hm b k hb' hr
  rw [hc] at h0
  obtain ⟨e, a', cs', w', ⟨F', L', u', h1, h2, h3, h4⟩, harr⟩ := h0
  refine ⟨e, a', cs', w', ?_, harr⟩
  cases e with
  | normal =>
    obtain ⟨hd, v, hv, hR⟩ := h4
    exact ⟨hd, u', h3, v, hv _ _ h1 h2, L', h2, hR⟩
  | ret =>
    obtain ⟨hd, v, hv, hR⟩ := h4
    exact ⟨hd, u', h3, v, hv _ _ h1 h2, L', h2, hR⟩
  | panic ch =>
    obtain ⟨hd, hR⟩ := h4
    exact ⟨hd, u', h3, L', h2, hR⟩
  | exit id => exact h4.elim
  | goto l => exact h4.elim
  | outgrown => exact h4.elim
end

/-! ### Operations -/
section rules
variable {P : Program} {W0 : World} {n : Nat} {SQ : SPost} {F : Nat → Value} {D : List Deferred} {L : List Seg} {ops : Array Oper} {rest : List Oper} {o : Oper}
theorem G.deferF {c : Call} {x : Operand} {f : FuncId} {first captured : Array Value} (ho : o.op = .defer c) (hr : runs n ops F o) (hd : o.dst = none) (hc : c.callee = .value x) (hx : ev F x = .func (.func f) first captured)
    {args : List Value} (ha : first.toList ++ c.args.toList.map (ev F) = args) (k : G P W0 n SQ ops rest F ({ target := .fn (.func f) captured, args := args.toArray } :: D) L) : G P W0 n SQ ops (o :: rest) F D L :=
  G.defer _ hr hd (fun w _ => by
    have ha' : first ++ c.args.map (ev F) = args.toArray := by rw [← ha]; apply Array.ext'; simp
    simp [execOp, ho, resolve, hc, hx, Deferred.ofValue, ha']) k
theorem G.panic {x : Operand} {t : TypeId} {v : Value} (ho : o.op = .panic x) (hr : runs n ops F o) (hx : ev F x = .iface t v) (k : SQ (.panic [{ v := .iface t v, recovered := false }]) F D L) : G P W0 n SQ ops (o :: rest) F D L :=
  G.panics (.iface t v) hr (fun w hm => ⟨w, L, by simp [execOp, ho, hx, Instr.panic, goPanic], hm, k⟩)
theorem run_func_nil {t : TypeId} {a b : Array TypeId} {q : Bool} (hu : P.underlying t = some (.func a b q)) (fn : Fn) (x y : Array Value) (w : World) : (Op.equal t (.func fn x y) .nilFunc).run P w = .ok false w := by
  have h : ∀ d : Nat, (Op.equalIn (d + 1) t (.func fn x y) .nilFunc).run P w = .ok false w := fun d => by simp [Op.equalIn, run_underlying hu]
  exact h 9999
theorem run_nil_func {t : TypeId} {a b : Array TypeId} {q : Bool} (hu : P.underlying t = some (.func a b q)) (w : World) : (Op.equal t .nilFunc .nilFunc).run P w = .ok true w := by
  have h : ∀ d : Nat, (Op.equalIn (d + 1) t .nilFunc .nilFunc).run P w = .ok true w := fun d => by simp [Op.equalIn, run_underlying hu]
  exact h 9999
theorem G.fnEq {t yt : TypeId} {a b : Array TypeId} {q : Bool} {x y : Operand} {fn : Fn} {us vs : Array Value} (ho : o.op = .binOp .eql t x y yt) (hr : runs n ops F o) {d : Nat} (hd : o.dst = some d) (hn : Nat.blt d n = true) (hu : P.underlying t = some (.func a b q)) (hx : ev F x = .func fn us vs) (hy : ev F y = .nilFunc)
    (k : G P W0 n SQ ops rest (upd F d (.bool false)) D L) : G P W0 n SQ ops (o :: rest) F D L :=
  G.val _ hr hd hn (fun w _ => by simp [execOp, ho, hx, hy, eqGuard_plain, binOp, run_func_nil hu]) k
theorem G.fnNil {t yt : TypeId} {a b : Array TypeId} {q : Bool} {x y : Operand} (ho : o.op = .binOp .eql t x y yt) (hr : runs n ops F o) {d : Nat} (hd : o.dst = some d) (hn : Nat.blt d n = true) (hu : P.underlying t = some (.func a b q)) (hx : ev F x = .nilFunc) (hy : ev F y = .nilFunc)
    (k : G P W0 n SQ ops rest (upd F d (.bool true)) D L) : G P W0 n SQ ops (o :: rest) F D L :=
  G.val _ hr hd hn (fun w _ => by simp [execOp, ho, hx, hy, eqGuard_plain, binOp, run_nil_func hu]) k
theorem G.isType {x : Operand} {xt t : TypeId} {td : TypeDesc} {v : Value} (ho : o.op = .typeAssert x xt t true) (hr : runs n ops F o) {d : Nat} (hd : o.dst = some d) (hn : Nat.blt d n = true) (hu : P.underlying t = some td) (hni : notIface td = true) (hx : ev F x = .iface t v)
    (k : G P W0 n SQ ops rest (upd F d (.tuple #[v, .bool true])) D L) : G P W0 n SQ ops (o :: rest) F D L :=
  G.val _ hr hd hn (fun w _ => by
    cases td <;> simp_all [notIface] <;> simp [execOp, ho, hx, Instr.typeAssert, run_underlying hu]) k
theorem G.notType {x : Operand} {xt t t2 : TypeId} {td : TypeDesc} {v z : Value} {sz by_ : Nat} (ho : o.op = .typeAssert x xt t true) (hr : runs n ops F o) {d : Nat} (hd : o.dst = some d) (hn : Nat.blt d n = true) (hu : P.underlying t = some td) (hni : notIface td = true) (hi : Inf P t sz by_ z) (hx : ev F x = .iface t2 v) (hne : t2 ≠ t)
    (k : G P W0 n SQ ops rest (upd F d (.tuple #[z, .bool false])) D L) : G P W0 n SQ ops (o :: rest) F D L :=
  G.val _ hr hd hn (fun w _ => by
    have hz : ∀ w, (zeroValue t).run P w = .ok z w := fun w => hi.run_zero
    cases td <;> simp_all [notIface] <;> simp [execOp, ho, hx, Instr.typeAssert, run_underlying hu, hne, hz]) k
theorem G.noType {x : Operand} {xt t : TypeId} {td : TypeDesc} {z : Value} {sz by_ : Nat} (ho : o.op = .typeAssert x xt t true) (hr : runs n ops F o) {d : Nat} (hd : o.dst = some d) (hn : Nat.blt d n = true) (hu : P.underlying t = some td) (hni : notIface td = true) (hi : Inf P t sz by_ z) (hx : ev F x = .nilIface)
    (k : G P W0 n SQ ops rest (upd F d (.tuple #[z, .bool false])) D L) : G P W0 n SQ ops (o :: rest) F D L :=
  G.val _ hr hd hn (fun w _ => by
    have hz : ∀ w, (zeroValue t).run P w = .ok z w := fun w => hi.run_zero
    cases td <;> simp_all [notIface] <;> simp [execOp, ho, hx, Instr.typeAssert, run_underlying hu, hz]) k
theorem G.extractL {x : Operand} {i : Nat} {vs : List Value} {v : Value} (ho : o.op = .extract x i) (hr : runs n ops F o) {d : Nat} (hd : o.dst = some d) (hn : Nat.blt d n = true) (hx : ev F x = .tuple vs.toArray) (hv : vs[i]? = some v) (k : G P W0 n SQ ops rest (upd F d v) D L) : G P W0 n SQ ops (o :: rest) F D L :=
  G.extract ho hr hd hn hx (by simpa using hv) k
theorem Y.extractL {x : Operand} {i : Nat} {vs : List Value} {v : Value} (ho : o.op = .extract x i) (hx : ev F x = .tuple vs.toArray) (hv : vs[i]? = some v) : ∀ w, (execOp (ev F) o).run P w = .ok (.value v) w :=
  Y.extract ho hx (by simpa using hv)
theorem G.makeFuncL {fn : Fn} {first captured : Array Operand} {l1 l2 : List Value} (ho : o.op = .makeFunc fn first captured) (hr : runs n ops F o) {d : Nat} (hd : o.dst = some d) (hn : Nat.blt d n = true) (h1 : first.toList.map (ev F) = l1) (h2 : captured.toList.map (ev F) = l2) (k : G P W0 n SQ ops rest (upd F d (.func fn l1.toArray l2.toArray)) D L) : G P W0 n SQ ops (o :: rest) F D L :=
  G.makeFunc ho hr hd hn (by
    have e1 : first.map (ev F) = l1.toArray := by rw [← h1]; apply Array.ext'; simp
    have e2 : captured.map (ev F) = l2.toArray := by rw [← h2]; apply Array.ext'; simp
    rw [e1, e2]; exact k)
theorem Y.makeFuncL {fn : Fn} {first captured : Array Operand} {l1 l2 : List Value} (ho : o.op = .makeFunc fn first captured) (h1 : first.toList.map (ev F) = l1) (h2 : captured.toList.map (ev F) = l2) : ∀ w, (execOp (ev F) o).run P w = .ok (.value (.func fn l1.toArray l2.toArray)) w := by
  intro w
  rw [Y.makeFunc ho w]
  have e1 : first.map (ev F) = l1.toArray := by rw [← h1]; apply Array.ext'; simp
  have e2 : captured.map (ev F) = l2.toArray := by rw [← h2]; apply Array.ext'; simp
  rw [e1, e2]
/-- an operation whose guard was itself left out -/
theorem G.skipU {j t : Nat} {b : Bool} (hg : o.guard = some (j, b)) (h1 : (ops[j]?).bind (·.dst) = some t) (h2 : Nat.blt t n = true) (h3 : F t = undef)
    {d : Nat} (hd : o.dst = some d) (hn : Nat.blt d n = true) (k : G P W0 n SQ ops rest (upd F d undef) D L) : G P W0 n SQ ops (o :: rest) F D L := by
  intro a w hs hD hm
  unfold wpList
  have hlt : t < a.tmps.size := by rw [hs.size]; exact Nat.le_of_ble_eq_true h2
  have ht := hs.at_ t
  rw [h3] at ht
  have hy : yielded ops a.tmps j = none := by
    unfold yielded
    rw [h1]
    simp only [Option.bind_some]
    simp only [Array.getD, hlt, dif_pos] at ht
    simp only [hlt, getElem?_pos]
    rw [show a.tmps[t] = undef from ht]
    rfl
  have hw : Region.wanted o (yielded ops a.tmps) = false := by
    unfold Region.wanted
    rw [hg]
    simp only [hy]
    first | rfl | (cases b <;> rfl)
  rw [if_neg (by simp [hw])]
  exact k _ w (hs.put hd hn _) (by rw [put_defers]; exact hD) hm
theorem At.app {b : Nat} {o : SObj} {S : List Seg} {u : Nat → SObj → List Seg} (h : At L b o u) : At (S ++ L) b o (fun b' o' => S ++ u b' o') := by
  obtain ⟨pre, post, h1, h2⟩ := h
  exact ⟨S.flatten ++ pre, post, by simp [h1], fun b' o' => by simp [h2]⟩
theorem G.sliceStrH {t : TypeId} {x up : Operand} {s : ByteArray} {kh : IntKind} {h : Int} (ho : o.op = .slice t x none (some up) none) (hr : runs n ops F o) {d : Nat} (hd : o.dst = some d) (hn : Nat.blt d n = true)
    (hu : P.underlying t = some .string) (hx : ev F x = .string s) (hh : ev F up = .int kh h) (hb : 0 ≤ h ∧ h ≤ s.size)
    (k : G P W0 n SQ ops rest (upd F d (.string (s.extract 0 h.toNat))) D L) : G P W0 n SQ ops (o :: rest) F D L :=
  G.val _ hr hd hn (fun w _ => by
    obtain ⟨h1, h3⟩ := hb
    simp [execOp, ho, hx, hh, Instr.sliceAt, Instr.slice, Instr.sliceBounds, run_underlying hu, run_sliceBound, h1, h3]) k
theorem At.again {b : Nat} {o : SObj} {u : Nat → SObj → List Seg} (h : At L b o u) (o' : SObj) : At (u b o') b o' u := by
  obtain ⟨pre, post, _, h2⟩ := h
  exact ⟨pre, post, h2 b o', h2⟩
theorem At.same {b : Nat} {o : SObj} {u : Nat → SObj → List Seg} (h : At L b o u) : (u b o).flatten = L.flatten := by
  obtain ⟨pre, post, h1, h2⟩ := h
  rw [h1, h2]
theorem G.storeS {t : TypeId} {x y : Operand} {b off : Nat} {cs vs : List Value} {e : TypeId} {kk sz by_ : Nat} {z : Value} {u : Nat → SObj → List Seg} (ha : At L b (.row cs e kk) u) (ho : o.op = .store t x y) (hr : runs n ops F o) (hd : o.dst = none)
    (hi : Inf P t sz by_ z) (hx : ev F x = .pointer (some ⟨b, off, none⟩)) (hy : ev F y = .agg vs.toArray) (hl : vs.length = sz) (hok : ∀ v ∈ vs, cellsOk v = true) (hlt : off + vs.length ≤ cs.length)
    (cs' : List Value) (hcs : cs.take off ++ vs ++ cs.drop (off + vs.length) = cs') (k : G P W0 n SQ ops rest F D (u b (.row cs' e kk))) : G P W0 n SQ ops (o :: rest) F D L :=
  G.less (L' := u b (.row cs e kk)) (fun _ hm => hm.of_flat (by rw [ha.same])) (G.storeAgg (fun o' => ha.again o') rfl ho hr hd hi hx hy hl hok hlt (by rw [hcs]; exact k))
/-! ### An index out of range -/
theorem run_boundsPanic (x y : Int) (code : BoundsCode) (w : World) : ∃ vs w', (boundsPanic (α := Value) .i64 x y code).run P w = .halt (.panic (.iface P.rt.boundsError (.agg vs))) w' ∧ (w' = w ∨ w' = w.drew) := by
  have key : (∃ vs, (boundsPanic (α := Value) .i64 x y code).run P w = .halt (.panic (.iface P.rt.boundsError (.agg vs))) w) ∨ ∃ vs, (boundsPanic (α := Value) .i64 x y code).run P w = .halt (.panic (.iface P.rt.boundsError (.agg vs))) w.drew := by
    by_cases h : 0 ≤ x ∧ x ≤ 31
    · by_cases hf : (Question.extern "runtime.boundsError.signed" 2).forced = true
      · left
        simp [boundsPanic, h, hf, runtimePanic, goPanic]
      · right
        simp [boundsPanic, h, hf, runtimePanic, goPanic]
    · left
      simp [boundsPanic, h, runtimePanic, goPanic]
  rcases key with ⟨vs, h⟩ | ⟨vs, h⟩
  · exact ⟨vs, w, h, .inl rfl⟩
  · exact ⟨vs, w.drew, h, .inr rfl⟩
theorem G.indexPanics {t e : TypeId} {x y : Operand} {a : Option Addr} {l c : Nat} {i : Int} (ho : o.op = .indexAddr t x y) (hr : runs n ops F o)
    (hu : P.underlying t = some (.slice e)) (hx : ev F x = .slice a l c) (hy : ev F y = .int .i64 i) (h : ¬ (0 ≤ i ∧ i < l))
    (k : ∀ vs, SQ (.panic [{ v := .iface P.rt.boundsError (.agg vs), recovered := false }]) F D L) : G P W0 n SQ ops (o :: rest) F D L := by
  intro aa w hs hD hm
  unfold wpList
  rw [if_pos (wanted_of hs hr)]
  refine .inl ?_
  unfold Oper.wp
  rw [hs.eval_fun]
  cases a with
  | none =>
    obtain ⟨vs, w', h1, h2⟩ := run_boundsPanic (P := P) i ((0 : Nat) : Int) .index w
    have he : (execOp (ev F) o).run P w = .halt (.panic (.iface P.rt.boundsError (.agg vs))) w' := by
      simp [execOp, ho, hx, hy, Instr.indexAt, asIntOf, run_underlying hu]
      have h1' := h1
      simp only [Int.ofNat_zero, Int.natCast_zero] at h1'
      rw [h1']
      rfl
    rw [he]
    exact ⟨F, L, hs, by rcases h2 with rfl | rfl; exact hm; exact hm.drew, hD ▸ k vs⟩
  | some a =>
    obtain ⟨vs, w', h1, h2⟩ := run_boundsPanic (P := P) i (l : Int) .index w
    have he : (execOp (ev F) o).run P w = .halt (.panic (.iface P.rt.boundsError (.agg vs))) w' := by
      simp [execOp, ho, hx, hy, Instr.indexAt, asIntOf, run_underlying hu]
      rw [if_neg h, h1]
      rfl
    rw [he]
    exact ⟨F, L, hs, by rcases h2 with rfl | rfl; exact hm; exact hm.drew, hD ▸ k vs⟩

/-! ### A struct out of its parts -/
def setAt (cs : List Value) (off : Nat) : List Value → List Value
  | [] => cs
  | c :: r => setAt (cs.set off c) (off + 1) r
def fillL (places : List (Nat × Nat)) (cs : List Value) : List (Nat × Value) → Option (List Value)
  | [] => some cs
  | (i, v) :: rest =>
    match places[i]? with
    | none => none
    | some (off, size) => bif Nat.beq v.cells.toList.length size && Nat.ble (off + v.cells.toList.length) cs.length then fillL places (setAt cs off v.cells.toList) rest else none
theorem setAt_length (l : List Value) : ∀ (cs : List Value) (off : Nat), (setAt cs off l).length = cs.length := by
  induction l with
  | nil => intro cs off; rfl
  | cons c r ih => intro cs off; simp [setAt, ih]
theorem setAt_fold (off : Nat) (l : List Value) : ∀ (k : Nat) (cs : Array Value), ((l.zipIdx k).foldl (fun cs (x : Value × Nat) => cs.setIfInBounds (off + x.2) x.1) cs).toList = setAt cs.toList (off + k) l := by
  induction l with
  | nil => intro k cs; rfl
  | cons c r ih =>
    intro k cs
    simp only [List.zipIdx_cons, List.foldl_cons, setAt]
    rw [ih]
    simp [Nat.add_assoc]
theorem fill_fillL (places : List (Nat × Nat)) (ps : List (Nat × Value)) : ∀ (cells : Array Value) (cs : List Value), fillL places cells.toList ps = some cs → Instr.fill (fun i => places[i]?) cells ps = some cs.toArray := by
  induction ps with
  | nil =>
    intro cells cs h
    simp only [fillL, Option.some.injEq] at h
    subst h
    rfl
  | cons p rest ih =>
    obtain ⟨i, v⟩ := p
    intro cells cs h
    simp only [fillL] at h
    simp only [Instr.fill]
    cases hp : places[i]? with
    | none => rw [hp] at h; cases h
    | some q =>
      obtain ⟨off, size⟩ := q
      rw [hp] at h
      simp only at h ⊢
      cases hb : Nat.beq v.cells.toList.length size && Nat.ble (off + v.cells.toList.length) cells.toList.length with
      | false => rw [hb] at h; cases h
      | true =>
        rw [hb] at h
        simp only [cond_true] at h
        simp only [Bool.and_eq_true] at hb
        have h1 := Nat.eq_of_beq_eq_true hb.1
        have h2 := Nat.le_of_ble_eq_true hb.2
        simp only [Array.length_toList] at h1 h2
        have hn : ¬ (v.cells.size ≠ size ∨ off + v.cells.size > cells.size) := by omega
        have hn2 : ¬ ((decide (v.cells.size ≠ size) || decide (off + v.cells.size > cells.size)) = true) := by simpa using hn
        rw [if_neg hn2]
        refine ih _ cs ?_
        rw [← h]
        congr 1
        rw [← Array.foldl_toList, Array.toList_zipIdx, setAt_fold]
        simp
def Places (P : Program) (t : TypeId) (places : List (Nat × Nat)) : Prop :=
  ∀ fs, P.underlying t = some (.struct fs) → ∀ w, (fs.mapM (m := Sem) fun f => do pure (f.offset, ← sizeOf f.type)).run P w = .ok places.toArray w
theorem G.buildL {t : TypeId} {parts : Array (Nat × Operand)} {fs : Array Field} {sz by_ : Nat} {z : Value} {cs : List Value} {places : List (Nat × Nat)} (ho : o.op = .build t parts) (hr : runs n ops F o) {d : Nat} (hd : o.dst = some d) (hn : Nat.blt d n = true) (hu : P.underlying t = some (.struct fs)) (hi : Inf P t sz by_ z)
    (hp : Places P t places) {ps : List (Nat × Value)} (hps : parts.toList.map (fun p => (p.1, ev F p.2)) = ps) (hf : fillL places z.cells.toList ps = some cs)
    (k : G P W0 n SQ ops rest (upd F d (.agg cs.toArray)) D L) : G P W0 n SQ ops (o :: rest) F D L :=
  G.build ho hr hd hn hu hi places.toArray (hp fs hu) (by
    rw [← fill_fillL places ps z.cells cs hf, ← hps]
    congr 1
    · funext i; simp
    · simp) k
theorem Y.buildL {t : TypeId} {parts : Array (Nat × Operand)} {fs : Array Field} {sz by_ : Nat} {z : Value} {cs : List Value} {places : List (Nat × Nat)} (ho : o.op = .build t parts) (hu : P.underlying t = some (.struct fs)) (hi : Inf P t sz by_ z)
    (hp : Places P t places) {ps : List (Nat × Value)} (hps : parts.toList.map (fun p => (p.1, ev F p.2)) = ps) (hf : fillL places z.cells.toList ps = some cs) : ∀ w, (execOp (ev F) o).run P w = .ok (.value (.agg cs.toArray)) w := by
  intro w
  have hz : ∀ w, (zeroValue t).run P w = .ok z w := fun w => hi.run_zero
  have hf2 : Instr.fill (places.toArray[·]?) z.cells (parts.map (fun (i, x) => (i, ev F x))).toList = some cs.toArray := by
    rw [← fill_fillL places ps z.cells cs hf, ← hps]
    congr 1
    · funext i; simp
    · simp
  simp only [execOp, ho, Instr.build, Sem.run_bind, hz, Result.andThen_ok, run_underlying hu, hp fs hu w, hf2, Sem.run_pure]
end rules
end Go.SL
/-
  Rows made of chunks of one size (slices of structs, of arrays), copies into them, bytes read out of them. No program in sight.
-/
namespace Go.SL
open Go Go.RowKit

section chunks
variable {α : Type} {f : α → List Value} {k : Nat}
theorem chunk_length : ∀ {l : List α}, (∀ x ∈ l, (f x).length = k) → (l.flatMap f).length = k * l.length
  | [], _ => by simp
  | x :: l, h => by
    have := chunk_length (l := l) (fun y hy => h y (by simp [hy]))
    simp only [List.flatMap_cons, List.length_append, List.length_cons, this, h x (by simp), Nat.mul_succ]
    omega
theorem chunk_get : ∀ {l : List α} (_ : ∀ x ∈ l, (f x).length = k) {i j : Nat} (_ : j < k) (hi : i < l.length), (l.flatMap f)[k * i + j]? = (f l[i])[j]?
  | x :: l, h, 0, j, hj, _ => by
    have hx := h x (by simp)
    simp only [List.flatMap_cons, Nat.mul_zero, Nat.zero_add, List.getElem_cons_zero]
    exact List.getElem?_append_left (by omega)
  | x :: l, h, i + 1, j, hj, hi => by
    have hx := h x (by simp)
    have := chunk_get (l := l) (fun y hy => h y (by simp [hy])) (i := i) hj (by simpa using hi)
    simp only [List.flatMap_cons, List.getElem_cons_succ]
    rw [List.getElem?_append_right (by rw [hx, Nat.mul_succ]; omega), hx, ← this]
    congr 1
    rw [Nat.mul_succ]
    omega
/-- a range within one chunk is written -/
theorem chunk_put : ∀ {l : List α} (_ : ∀ x ∈ l, (f x).length = k) {i off : Nat} {vs : List Value} (_ : off + vs.length ≤ k) (hi : i < l.length) {y : α} (_ : (f l[i]).take off ++ vs ++ (f l[i]).drop (off + vs.length) = f y),
    (l.flatMap f).take (k * i + off) ++ vs ++ (l.flatMap f).drop (k * i + off + vs.length) = (l.set i y).flatMap f
  | x :: l, h, 0, off, vs, ho, _, y, e => by
    have hx := h x (by simp)
    simp only [List.getElem_cons_zero] at e
    simp only [List.flatMap_cons, Nat.mul_zero, Nat.zero_add, List.set_cons_zero]
    rw [List.take_append_of_le_length (by omega), List.drop_append_of_le_length (by omega), ← e]
    simp
  | x :: l, h, i + 1, off, vs, ho, hi, y, e => by
    have hx := h x (by simp)
    have h0 := chunk_put (l := l) (fun z hz => h z (by simp [hz])) (i := i) ho (by simpa using hi) (by simpa using e)
    have e1 : k * (i + 1) + off = (f x).length + (k * i + off) := by rw [hx, Nat.mul_succ]; omega
    simp only [List.flatMap_cons, List.set_cons_succ]
    rw [← h0, e1, List.take_length_add_append, show (f x).length + (k * i + off) + vs.length = (f x).length + (k * i + off + vs.length) by omega, List.drop_length_add_append]
    simp
theorem list_put1 (l : List Value) {p : Nat} (h : p < l.length) (v : Value) : l.set p v = l.take p ++ [v] ++ l.drop (p + 1) := by
  rw [List.set_eq_take_append_cons_drop, if_pos h]
  simp
theorem chunk_set {l : List α} (h : ∀ x ∈ l, (f x).length = k) {i off : Nat} {v : Value} (ho : off < k) (hi : i < l.length) {y : α} (e : (f l[i]).set off v = f y) :
    (l.flatMap f).set (k * i + off) v = (l.set i y).flatMap f := by
  have hl := h l[i] (List.getElem_mem hi)
  have hlen := chunk_length h
  have hlt : k * i + off < (l.flatMap f).length := by
    rw [hlen]
    have : k * (i + 1) ≤ k * l.length := Nat.mul_le_mul_left k hi
    rw [Nat.mul_succ] at this
    omega
  rw [list_put1 _ hlt]
  refine chunk_put h (vs := [v]) (by simp; omega) hi ?_
  rw [← e, list_put1 _ (by omega)]
  simp
theorem chunk_replicate (x : α) (m : Nat) : (List.replicate m x).flatMap f = (List.replicate m (f x)).flatten := by
  induction m with
  | zero => rfl
  | succ m ih => simp [List.replicate_succ, ih]
end chunks
theorem zeroRow_chunk {α : Type} {f : α → List Value} {z : Value} {x : α} {sz : Nat} (hz : z.cells.toList = f x) (hs : (f x).length = sz) (m : Nat) : zeroRow z m sz = (List.replicate m x).flatMap f := by
  have hl : ∀ y ∈ List.replicate m x, (f y).length = sz := fun y hy => by rw [List.eq_of_mem_replicate hy]; exact hs
  apply List.ext_getElem?
  intro i
  by_cases hi : i < m * sz
  · have h0 : 0 < sz := Nat.pos_of_ne_zero fun e => by subst e; simp at hi
    have hq : i / sz < m := (Nat.div_lt_iff_lt_mul h0).2 hi
    have hr : i % sz < sz := Nat.mod_lt _ h0
    have e := Nat.div_add_mod i sz
    have h2 := chunk_get hl (i := i / sz) (j := i % sz) hr (by simpa using hq)
    rw [e] at h2
    rw [h2]
    simp only [List.getElem_replicate, zeroRow, List.getElem?_map, List.getElem?_range hi, Option.map_some]
    have hc : i % sz < z.cells.size := by rw [← Array.length_toList, hz, hs]; exact hr
    rw [getElem!_pos z.cells _ hc, ← hz, Array.getElem?_toList]
    simp [hc]
  · rw [List.getElem?_eq_none (by simp; omega), List.getElem?_eq_none (by rw [chunk_length hl]; simp; rw [Nat.mul_comm]; omega)]

theorem setAt_eq : ∀ (vs cs : List Value) (off : Nat), off + vs.length ≤ cs.length → setAt cs off vs = cs.take off ++ vs ++ cs.drop (off + vs.length)
  | [], cs, off, _ => by simp [setAt]
  | v :: vs, cs, off, h => by
    simp only [List.length_cons] at h
    rw [setAt, setAt_eq vs _ _ (by rw [List.length_set]; omega)]
    have h1 : (cs.set off v).take (off + 1) = cs.take off ++ [v] := by
      rw [list_put1 _ (by omega), List.take_append_of_le_length (by simp; omega), List.take_of_length_le (by simp; omega)]
    have h2 : (cs.set off v).drop (off + 1 + vs.length) = cs.drop (off + (vs.length + 1)) := by
      rw [List.drop_set_of_lt (by omega)]
      congr 1
      omega
    rw [h1, h2]
    simp
theorem Inf.uniq {P : Program} {t s b s' b' : Nat} {z z' : Value} (h : Inf P t s b z) (h' : Inf P t s' b' z') : z = z' := by
  obtain ⟨i, h1, _, _, h4⟩ := h
  obtain ⟨i', h1', _, _, h4'⟩ := h'
  rw [h1] at h1'
  cases h1'
  rw [h4] at h4'
  cases h4'
  rfl
theorem Rd.cell_at {W0 : World} {L : List Seg} {b off j : Nat} {vs : List Value} (h : Rd W0 L (some ⟨b, off, none⟩) vs) (hj : j < vs.length) (w : World) (hm : Mem W0 w L) : w.cell? ⟨b, off + j, none⟩ = vs[j]? := by
  obtain ⟨b', o', e, hc⟩ := h.cells w hm j hj
  cases e
  exact hc
theorem Mem.join {W0 w : World} {s t : Seg} {L : List Seg} (h : Mem W0 w (s :: t :: L)) : Mem W0 w ((s ++ t) :: L) := h.of_flat (by simp)
section rules
variable {P : Program} {W0 : World} {n : Nat} {SQ : SPost} {F : Nat → Value} {D : List Deferred} {L : List Seg} {ops : Array Oper} {rest : List Oper} {o : Oper}
theorem G.copyA {x y : Operand} {t t2 e : TypeId} {b off l c m c2 sz by_ : Nat} {a : Option Addr} {z : Value} {cs vs : List Value} {e' : TypeId} {kk : Nat} {u : Nat → SObj → List Seg} (ha : At L b (.row cs e' kk) u) (ho : o.op = .call { callee := .builtin .copy, args := #[x, y], argTypes := #[t, t2] }) (hr : runs n ops F o) {d : Nat} (hd : o.dst = some d) (hn : Nat.blt d n = true)
    (hu : P.underlying t = some (.slice e)) (hi : Inf P e sz by_ z) (hx : ev F x = .slice (some ⟨b, off, none⟩) l c) (hy : ev F y = .slice a m c2) (hsz0 : 0 < sz) (hvs : vs.length = min m l * sz) (hrd : Rd W0 L a vs) (hok : ∀ v ∈ vs, cellsOk v = true) (hlt : off + vs.length ≤ cs.length)
    (cs' : List Value) (hcs : cs.take off ++ vs ++ cs.drop (off + vs.length) = cs')
    (k : G P W0 n SQ ops rest (upd F d (.int .i64 (min m l : Nat))) D (u b (.row cs' e' kk))) : G P W0 n SQ ops (o :: rest) F D L :=
  G.less (L' := u b (.row cs e' kk)) (fun _ hm => hm.of_flat (by rw [ha.same])) (G.copy (fun o' => ha.again o') rfl ho hr hd hn hu hi hx hy hsz0 hvs (hrd.mono fun _ hm => hm.of_flat (by rw [ha.same])) hok hlt (by rw [hcs]; exact k))
/-! ### A slice out of its elements -/
def fillF (place : Nat → Option (Nat × Nat)) (cs : List Value) : List (Nat × Value) → Option (List Value)
  | [] => some cs
  | (i, v) :: rest =>
    match place i with
    | none => none
    | some (off, size) => bif Nat.beq v.cells.toList.length size && Nat.ble (off + v.cells.toList.length) cs.length then fillF place (setAt cs off v.cells.toList) rest else none
theorem fill_fillF (place : Nat → Option (Nat × Nat)) (ps : List (Nat × Value)) : ∀ (cells : Array Value) (cs : List Value), fillF place cells.toList ps = some cs → Instr.fill place cells ps = some cs.toArray := by
  induction ps with
  | nil =>
    intro cells cs h
    simp only [fillF, Option.some.injEq] at h
    subst h
    rfl
  | cons p rest ih =>
    obtain ⟨i, v⟩ := p
    intro cells cs h
    simp only [fillF] at h
    simp only [Instr.fill]
    cases hp : place i with
    | none => rw [hp] at h; cases h
    | some q =>
      obtain ⟨off, size⟩ := q
      rw [hp] at h
      simp only at h ⊢
      cases hb : Nat.beq v.cells.toList.length size && Nat.ble (off + v.cells.toList.length) cells.toList.length with
      | false => rw [hb] at h; cases h
      | true =>
        rw [hb] at h
        simp only [cond_true] at h
        simp only [Bool.and_eq_true] at hb
        have h1 := Nat.eq_of_beq_eq_true hb.1
        have h2 := Nat.le_of_ble_eq_true hb.2
        simp only [Array.length_toList] at h1 h2
        have hn : ¬ (v.cells.size ≠ size ∨ off + v.cells.size > cells.size) := by omega
        have hn2 : ¬ ((decide (v.cells.size ≠ size) || decide (off + v.cells.size > cells.size)) = true) := by simpa using hn
        rw [if_neg hn2]
        refine ih _ cs ?_
        rw [← h]
        congr 1
        rw [← Array.foldl_toList, Array.toList_zipIdx, setAt_fold]
        simp
theorem G.buildSliceL {t e : TypeId} {m : Nat} {parts : Array (Nat × Operand)} {sz by_ : Nat} {z : Value} {cs zs : List Value} (ho : o.op = .buildSlice t m parts) (hr : runs n ops F o) {d : Nat} (hd : o.dst = some d) (hn : Nat.blt d n = true)
    (hu : P.underlying t = some (.slice e)) (hi : Inf P e sz by_ z) (hm0 : Nat.ble (m * sz) 16777216 = true)
    (hz : ((Array.range (m * sz)).map ((if m * sz = 0 then #[] else z.cells)[· % (if m * sz = 0 then #[] else z.cells).size]!)).toList = zs) {ps : List (Nat × Value)} (hps : parts.toList.map (fun p => (p.1, ev F p.2)) = ps) (hf : fillF (fun i => some (i * sz, sz)) zs ps = some cs)
    (k : ∀ b, G P W0 n SQ ops rest (upd F d (.slice (some ⟨b, 0, none⟩) m m)) D ([(b, .row cs e cs.length)] :: L)) : G P W0 n SQ ops (o :: rest) F D L :=
  G.buildSlice ho hr hd hn hu hi hm0 (by
    subst hz
    rw [← fill_fillF _ ps _ cs hf, ← hps]
    congr 1
    simp) k
/-- a slice of no elements, its own block -/
theorem OwnS.empty (b : Nat) (t : TypeId) (sz : Nat) : OwnS (.slice (some ⟨b, 0, none⟩) 0 0) 0 [] t sz [(b, .row [] t 0)] := ⟨by simp, .inr ⟨b, 0, 0, rfl, rfl, by simp, by omega⟩⟩
theorem G.emptySlice {t e : TypeId} {sz by_ : Nat} {z : Value} (ho : o.op = .buildSlice t 0 #[]) (hr : runs n ops F o) {d : Nat} (hd : o.dst = some d) (hn : Nat.blt d n = true)
    (hu : P.underlying t = some (.slice e)) (hi : Inf P e sz by_ z) (k : ∀ b, G P W0 n SQ ops rest (upd F d (.slice (some ⟨b, 0, none⟩) 0 0)) D ([(b, .row [] e 0)] :: L)) : G P W0 n SQ ops (o :: rest) F D L :=
  G.buildSlice (cs := []) ho hr hd hn hu hi (by simp) (by simp [Instr.fill]) k
end rules
end Go.SL
/-
  Slices that came in, whose elements are bools (or any values): from what a row's frame tells of them to what the walks ask.
-/
namespace Go.SL
open Go Go.RowKit Go.Deep

theorem rd_of_cells {W : World} {x : Addr} {vs : List Value} (hc : ∀ i, i < vs.length → W.cell? (x.add i) = vs[i]?) : ∀ L, Rd W L (some x) vs := fun L => by
  rcases Nat.eq_zero_or_pos vs.length with h0 | h0
  · rw [List.eq_nil_of_length_eq_zero h0]
    exact Rd.nil
  · have h1 := hc 0 h0
    rw [List.getElem?_eq_getElem h0] at h1
    have hsp : (x.add 0).spot = none := World.cell?_spot h1
    obtain ⟨b, off, spot⟩ := x
    have hspot : spot = none := by simpa [Addr.add] using hsp
    subst hspot
    refine Rd.old fun j hj => ?_
    rw [← hc j hj, add_mul_addr]
/-- a slice of bools that came in -/
def BoolRow (W : World) (a : Option Addr) (len cap : Nat) (ks : List Bool) : Prop := len = ks.length ∧ len ≤ cap ∧ cap ≤ maxLen ∧ ∀ L, Rd W L a (ks.map Value.bool)
theorem open_boolRow {H : Type} {enc : TypeId × Value → H} {P : Program} {W : World} {base : Nat} {held : Bool} {t e : TypeId} {fuel len cap : Nat} {a : Option Addr} {x : DataW H × List MemPlace} (ht : P.underlying t = some (.slice e)) (he : P.underlying e = some .bool) (hc : P.cellsOf e = 1)
    (h : DataW.trod enc P W base (fun _ => true) held fuel t [.slice a len cap] = some x) : ∃ ks, BoolRow W a len cap ks := by
  rcases open_slice1 ht hc h with ⟨hcs, _⟩ | ⟨a', len', cap', m, n, V, D, Pl, hcs, hb, hl, hm, hmm, _, hx⟩
  · simp only [List.cons.injEq, Value.slice.injEq, and_true] at hcs
    obtain ⟨rfl, rfl, rfl⟩ := hcs
    exact ⟨[], rfl, Nat.le_refl _, by simp, fun L => Rd.nil⟩
  · simp only [List.cons.injEq, Value.slice.injEq, and_true] at hcs
    obtain ⟨rfl, rfl, rfl⟩ := hcs
    simp only [if_true] at hmm
    subst hmm
    obtain ⟨B, hB⟩ := choose_lt (α := Bool) (p := fun i b => V i = .bool b) (fun i hi => by
      obtain ⟨b, h1, h2⟩ := DataW.trod_bool he (hx i hi).2
      exact ⟨b, by simpa using h1⟩)
    refine ⟨(List.range len).map B, by simp, hl, hm, rd_of_cells fun i hi => ?_⟩
    simp only [List.length_map, List.length_range] at hi
    rw [(hx i (by omega)).1, hB i (by omega)]
    simp [hi]
/-- a slice of slices of bytes that came in: of each its place, its room, its bytes -/
def RowsB (W : World) (a : Option Addr) (len cap : Nat) (ls : List (Option Addr × Nat × List UInt8)) : Prop :=
  len = ls.length ∧ len ≤ cap ∧ cap ≤ maxLen ∧ (∀ L, Rd W L a (ls.map fun e => .slice e.1 e.2.2.length e.2.1)) ∧ ∀ e ∈ ls, e.2.2.length ≤ e.2.1 ∧ ∀ L, Rd W L e.1 (bytesV e.2.2)
theorem open_rowsB {H : Type} {enc : TypeId × Value → H} {P : Program} {W : World} {base : Nat} {held : Bool} {t e q : TypeId} {fuel len cap : Nat} {a : Option Addr} {x : DataW H × List MemPlace} (ht : P.underlying t = some (.slice e)) (he : P.underlying e = some (.slice q)) (hq : P.underlying q = some (.int .u8)) (hc : P.cellsOf e = 1) (hc2 : P.cellsOf q = 1)
    (h : DataW.trod enc P W base (fun _ => true) held fuel t [.slice a len cap] = some x) : ∃ ls, RowsB W a len cap ls := by
  rcases open_slice1 ht hc h with ⟨hcs, _⟩ | ⟨a', len', cap', m, n, V, D, Pl, hcs, hb, hl, hm, hmm, _, hx⟩
  · simp only [List.cons.injEq, Value.slice.injEq, and_true] at hcs
    obtain ⟨rfl, rfl, rfl⟩ := hcs
    exact ⟨[], rfl, Nat.le_refl _, by simp, fun L => Rd.nil, fun e he => by cases he⟩
  · simp only [List.cons.injEq, Value.slice.injEq, and_true] at hcs
    obtain ⟨rfl, rfl, rfl⟩ := hcs
    simp only [if_true] at hmm
    subst hmm
    obtain ⟨E, hE⟩ := choose_lt (α := Option Addr × Nat × List UInt8) (p := fun i e => V i = .slice e.1 e.2.2.length e.2.1 ∧ e.2.2.length ≤ e.2.1 ∧ ∀ L, Rd W L e.1 (bytesV e.2.2)) (fun i hi => by
      rcases ChangeShapes.open_ints he hq hc2 (hx i hi).2 with ⟨hcs, _⟩ | ⟨y, l, c, zs, hcs, _, hl, hm, hz, _, hcell, hwz⟩
      · simp only [List.cons.injEq, and_true] at hcs
        exact ⟨(none, 0, []), hcs, Nat.le_refl _, fun L => Rd.nil⟩
      · simp only [List.cons.injEq, and_true] at hcs
        obtain ⟨xs, h1, h2, _, h4⟩ := row_bytes (W := W) (a := some y) (len := l) (cap := c) (zs := zs) (.inr ⟨y, rfl, hl, hm, by simpa using hz, hcell, hwz⟩)
        exact ⟨(some y, c, xs), by rw [hcs, h1], by simpa [← h1] using h2, h4⟩)
    refine ⟨(List.range len).map E, by simp, hl, hm, rd_of_cells fun i hi => ?_, fun e he => ?_⟩
    · simp only [List.length_map, List.length_range] at hi
      rw [(hx i (by omega)).1, (hE i (by omega)).1]
      simp [hi]
    · obtain ⟨i, hi, rfl⟩ := List.mem_map.1 he
      rw [List.mem_range] at hi
      exact (hE i (by omega)).2
theorem BoolRow.at {W : World} {p o : Nat} {ks : List Bool} (r : ∀ L, Rd W L (some ⟨p, o, none⟩) (ks.map Value.bool)) {i : Nat} (hlt : i < ks.length) {L : List Seg} (w : World) (hm : Mem W w L) : w.cell? ⟨p, o + (i : Int).toNat * 1, none⟩ = some (.bool ks[i]) := by
  have h := Rd.cell_at (r L) (j := i) (by simpa using hlt) w hm
  rw [List.getElem?_map, List.getElem?_eq_getElem hlt] at h
  simpa using h
theorem bytesV_set (l : List UInt8) (n : Nat) (c : UInt8) : (bytesV l).set n (.int .u8 (c.toNat : Int)) = bytesV (l.set n c) := by simp [bytesV, byteV, List.map_set]
/-- one byte of an own slice is set -/
theorem wf_u8 {n : Int} (h : (Lit.int .u8 n).wf = true) : ∃ x : UInt8, n = (x.toNat : Int) := by
  have hb : 0 ≤ n ∧ n < 256 := by
    simp [Lit.wf, IntKind.min, IntKind.max, IntKind.signed, IntKind.bits] at h
    omega
  exact ⟨UInt8.ofNat n.toNat, by simp; omega⟩
theorem OwnS.block {v : Value} {l : Nat} {cs : List Value} {t : TypeId} {sz : Nat} {seg : Seg} (h : OwnS v l cs t sz seg) (h0 : 0 < l) : ∃ b c k, v = .slice (some ⟨b, 0, none⟩) l c ∧ seg = [(b, .row cs t k)] ∧ c * sz ≤ k ∧ l ≤ c := by
  obtain ⟨_, ⟨_, rfl, _⟩ | ⟨b, c, k, h1, h2, h3, h4⟩⟩ := h
  · exact absurd h0 (by omega)
  · exact ⟨b, c, k, h1, h2, h3, h4⟩
theorem OwnS.cap {a : Option Addr} {l c : Nat} {cs : List Value} {t : TypeId} {sz : Nat} {seg : Seg} (h : OwnS (.slice a l c) l cs t sz seg) : l ≤ c := by
  obtain ⟨_, ⟨_, h2, _⟩ | ⟨b, c', k, h1, _, _, h4⟩⟩ := h
  · omega
  · cases h1
    exact h4
theorem OwnS.mk {b l c k : Nat} {cs : List Value} {t : TypeId} {sz : Nat} (h : cs.length = l * sz) (h1 : c * sz ≤ k) (h2 : l ≤ c) : OwnS (.slice (some ⟨b, 0, none⟩) l c) l cs t sz [(b, .row cs t k)] := ⟨h, .inr ⟨b, c, k, rfl, rfl, h1, h2⟩⟩
theorem u8_add1 (x : UInt8) : Value.int .u8 (IntKind.u8.wrap ((x.toNat : Int) + 1)) = .int .u8 ((x + 1).toNat : Int) := by
  have h1 : IntKind.u8.wrap ((x.toNat : Int) + 1) = (((x.toNat + 1) % 256 : Nat) : Int) := by
    rw [show (x.toNat : Int) + 1 = ((x.toNat + 1 : Nat) : Int) by omega]
    simp only [IntKind.wrap, IntKind.bits, IntKind.signed]
    simp
  rw [h1, UInt8.toNat_add]
  rfl
theorem u8_ofN (i : Nat) : Value.int .u8 (IntKind.u8.wrap (i : Int)) = .int .u8 ((UInt8.ofNat i).toNat : Int) := by
  have h1 : IntKind.u8.wrap (i : Int) = ((i % 256 : Nat) : Int) := by
    simp only [IntKind.wrap, IntKind.bits, IntKind.signed]
    simp
  rw [h1]
  congr 2
theorem Rd.ints_at {W0 : World} {p o : Nat} {zs : List Int} (r : ∀ L, Rd W0 L (some ⟨p, o, none⟩) (zs.map (Value.int .i64))) {i : Nat} (hlt : i < zs.length) {L : List Seg} (w : World) (hm : Mem W0 w L) : w.cell? ⟨p, o + (i : Int).toNat * 1, none⟩ = some (.int .i64 zs[i]) := by
  have h := Rd.cell_at (r L) (j := i) (by simpa using hlt) w hm
  rw [List.getElem?_map, List.getElem?_eq_getElem hlt] at h
  simpa using h
/-! The heap's list in another order -/
theorem Mem.perm {W0 w : World} {L L' : List Seg} (h : Mem W0 w L) (hp : L.Perm L') : Mem W0 w L' := h.of_flat hp.flatten
theorem Mem.up3 {W0 w : World} {a b c : Seg} {L : List Seg} (h : Mem W0 w (a :: b :: c :: L)) : Mem W0 w (c :: a :: b :: L) := h.perm ((List.perm_middle (l₁ := [a, b]) (a := c) (l₂ := L)))
theorem Mem.up4 {W0 w : World} {a b c d : Seg} {L : List Seg} (h : Mem W0 w (a :: b :: c :: d :: L)) : Mem W0 w (d :: a :: b :: c :: L) := h.perm ((List.perm_middle (l₁ := [a, b, c]) (a := d) (l₂ := L)))
theorem Mem.up5 {W0 w : World} {a b c d e : Seg} {L : List Seg} (h : Mem W0 w (a :: b :: c :: d :: e :: L)) : Mem W0 w (e :: a :: b :: c :: d :: L) := h.perm ((List.perm_middle (l₁ := [a, b, c, d]) (a := e) (l₂ := L)))
theorem Mem.up6 {W0 w : World} {a b c d e f : Seg} {L : List Seg} (h : Mem W0 w (a :: b :: c :: d :: e :: f :: L)) : Mem W0 w (f :: a :: b :: c :: d :: e :: L) := h.perm ((List.perm_middle (l₁ := [a, b, c, d, e]) (a := f) (l₂ := L)))
theorem Mem.up7 {W0 w : World} {a b c d e f g : Seg} {L : List Seg} (h : Mem W0 w (a :: b :: c :: d :: e :: f :: g :: L)) : Mem W0 w (g :: a :: b :: c :: d :: e :: f :: L) := h.perm ((List.perm_middle (l₁ := [a, b, c, d, e, f]) (a := g) (l₂ := L)))
theorem Mem.turn3 {W0 w : World} {a b c : Seg} {L : List Seg} (h : Mem W0 w (a :: b :: c :: L)) : Mem W0 w (c :: b :: a :: L) :=
  h.perm (((List.reverse_perm [a, b, c]).symm).append_right L)
theorem Mem.cons_of {W0 w : World} {s : Seg} {L L' : List Seg} (hp : L'.flatten.Sublist L.flatten) (h : Mem W0 w (s :: L)) : Mem W0 w (s :: L') := h.fewer (by simpa using hp)
end Go.SL
