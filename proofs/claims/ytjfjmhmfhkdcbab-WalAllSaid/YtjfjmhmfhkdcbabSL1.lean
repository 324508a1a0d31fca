/-
  Rules for walking Go code over a heap that is told block by block: the state of one activation is a function from slots to values, the heap a list of segments of blocks. No program in sight.
-/
import Derived.WalkKit
import Derived.Defers
namespace Go.SL
open Go Go.RowKit

/-! ### Slots -/
def upd (F : Nat → Value) (d : Nat) (v : Value) : Nat → Value := fun t => bif Nat.beq t d then v else F t
def ev (F : Nat → Value) : Operand → Value
  | .tmp t => F t
  | .const v => v
  | .global g => .pointer (some ⟨g, 0, none⟩)
  | .func f => .func (.func f) #[] #[]
def argF : List Value → Nat → Value
  | [], _ => undef
  | v :: _, 0 => v
  | _ :: vs, t + 1 => argF vs t

theorem upd_same (F : Nat → Value) (d : Nat) (v : Value) : upd F d v d = v := by
  simp [upd]
theorem upd_ne (F : Nat → Value) {d t : Nat} (v : Value) (h : t ≠ d) : upd F d v t = F t := by
  have : Nat.beq t d = false := by
    cases hb : Nat.beq t d with
    | false => rfl
    | true => exact absurd (Nat.eq_of_beq_eq_true hb) h
  simp [upd, this]
theorem upd_eq {F : Nat → Value} {d : Nat} {v : Value} (h : F d = v) : upd F d v = F := by
  funext t
  by_cases ht : t = d
  · subst ht; rw [upd_same, h]
  · rw [upd_ne _ _ ht]

structure Sl (n : Nat) (a : Act) (F : Nat → Value) : Prop where
  size : a.tmps.size = n
  at_ : ∀ t, a.tmps.getD t undef = F t

theorem Sl.eval {n : Nat} {a : Act} {F : Nat → Value} (h : Sl n a F) (x : Operand) : a.eval x = ev F x := by
  cases x with
  | tmp t => exact h.at_ t
  | const v => rfl
  | global g => rfl
  | func f => rfl
theorem Sl.eval_fun {n : Nat} {a : Act} {F : Nat → Value} (h : Sl n a F) : a.eval = ev F := funext h.eval
theorem Sl.put {n : Nat} {a : Act} {F : Nat → Value} (h : Sl n a F) {dst : Option Nat} {d : Nat} (hd : dst = some d) (hn : Nat.blt d n = true) (v : Value) : Sl n (a.put dst v) (upd F d v) := by
  subst hd
  have hlt : d < n := Nat.le_of_ble_eq_true hn
  refine ⟨by simp [Act.put, h.size], fun t => ?_⟩
  have ht := h.at_ t
  have hs := h.size
  simp only [Act.put]
  by_cases e : t = d
  · subst e
    rw [upd_same]
    have hlt' : t < a.tmps.size := by omega
    simp [Array.getD, hlt']
  · rw [upd_ne _ _ e, ← ht]
    simp only [Array.getD_eq_getD_getElem?]
    rw [Array.getElem?_setIfInBounds_ne (by omega)]
theorem put_defers (a : Act) (dst : Option Nat) (v : Value) : (a.put dst v).defers = a.defers := by cases dst <;> rfl

/-! ### Blocks -/
inductive SObj where
  /-- a block of k cells, of which the first are these -/
  | row (cs : List Value) (t : TypeId) (k : Nat)
  | obj (o : Obj)

def Holds (w : World) (b : Nat) : SObj → Prop
  | .row cs t k => ∃ (rest : List Value) (fr : Nat × Nat), w.heap[b]? = some (.cells (cs ++ rest).toArray t fr) ∧ (cs ++ rest).length = k ∧ (fr = (0, 0) ∨ k ≤ fr.1)
  | .obj o => w.heap[b]? = some o

abbrev Seg := List (Nat × SObj)

structure Mem (W0 w : World) (L : List Seg) : Prop where
  below : Below W0.heap.size W0 w
  nodup : (L.flatten.map (·.1)).Nodup
  holds : ∀ p ∈ L.flatten, W0.heap.size ≤ p.1 ∧ Holds w p.1 p.2

theorem Mem.start (W0 : World) : Mem W0 W0 [] := ⟨Below.refl _ _, by simp, by simp⟩
theorem Holds.block {w w' : World} {b : Nat} (h : w'.heap[b]? = w.heap[b]?) : ∀ {o : SObj}, Holds w b o → Holds w' b o
  | .row _ _ _, ⟨rest, fr, h1, h2, h3⟩ => ⟨rest, fr, h.trans h1, h2, h3⟩
  | .obj _, h1 => h.trans h1
theorem Holds.lt {w : World} {b : Nat} : ∀ {o : SObj}, Holds w b o → b < w.heap.size
  | .row _ _ _, ⟨rest, fr, h1, _, _⟩ => by
    rcases Nat.lt_or_ge b w.heap.size with h | h
    · exact h
    · rw [Array.getElem?_eq_none h] at h1; cases h1
  | .obj _, h1 => by
    rcases Nat.lt_or_ge b w.heap.size with h | h
    · exact h
    · have h1 : w.heap[b]? = _ := h1
      rw [Array.getElem?_eq_none h] at h1; cases h1

/-- where a block stands in the heap's list, and the list with another one in its place -/
def At (L : List Seg) (b : Nat) (o : SObj) (u : Nat → SObj → List Seg) : Prop :=
  ∃ pre post, L.flatten = pre ++ (b, o) :: post ∧ ∀ b' o', (u b' o').flatten = pre ++ (b', o') :: post
theorem At.here {b : Nat} {o : SObj} {s : Seg} {L : List Seg} : At (((b, o) :: s) :: L) b o (fun b' o' => ((b', o') :: s) :: L) :=
  ⟨[], s ++ L.flatten, by simp, fun _ _ => by simp⟩
theorem At.next {b : Nat} {o : SObj} {s : Seg} {L : List Seg} {u : Nat → SObj → List Seg} (h : At L b o u) : At (s :: L) b o (fun b' o' => s :: u b' o') := by
  obtain ⟨pre, post, h1, h2⟩ := h
  exact ⟨s ++ pre, post, by simp [h1], fun b' o' => by simp [h2]⟩
theorem At.in1 {b : Nat} {o : SObj} {x : Nat × SObj} {s : Seg} {L : List Seg} : At ((x :: (b, o) :: s) :: L) b o (fun b' o' => (x :: (b', o') :: s) :: L) :=
  ⟨[x], s ++ L.flatten, by simp, fun _ _ => by simp⟩
theorem At.in2 {b : Nat} {o : SObj} {x y : Nat × SObj} {s : Seg} {L : List Seg} : At ((x :: y :: (b, o) :: s) :: L) b o (fun b' o' => (x :: y :: (b', o') :: s) :: L) :=
  ⟨[x, y], s ++ L.flatten, by simp, fun _ _ => by simp⟩
/-- a block in the midst of a segment that is a list of blocks -/
theorem At.mid {b : Nat} {o : SObj} {s1 s2 : Seg} {L : List Seg} : At ((s1 ++ (b, o) :: s2) :: L) b o (fun b' o' => (s1 ++ (b', o') :: s2) :: L) :=
  ⟨s1, s2 ++ L.flatten, by simp, fun _ _ => by simp⟩

section mem
variable {W0 w : World} {L : List Seg} {b : Nat} {o : SObj} {u : Nat → SObj → List Seg}
theorem Mem.get (h : Mem W0 w L) (ha : At L b o u) : W0.heap.size ≤ b ∧ Holds w b o := by
  obtain ⟨pre, post, h1, _⟩ := ha
  exact h.holds (b, o) (by rw [h1]; simp)
theorem Mem.of_flat {L' : List Seg} (h : Mem W0 w L) (hp : L.flatten.Perm L'.flatten) : Mem W0 w L' :=
  ⟨h.below, (hp.map _).nodup_iff.1 h.nodup, fun p hm => h.holds p (hp.mem_iff.2 hm)⟩
theorem Mem.alloc (h : Mem W0 w L) (x : Obj) {o : SObj} (ho : Holds (w.alloc x) w.heap.size o) : Mem W0 (w.alloc x) ([(w.heap.size, o)] :: L) := by
  refine ⟨h.below.alloc h.below.size x, ?_, ?_⟩
  · simp only [List.flatten_cons, List.singleton_append, List.map_cons, List.nodup_cons]
    refine ⟨fun hm => ?_, h.nodup⟩
    obtain ⟨p, hp, e⟩ := List.mem_map.1 hm
    have := (h.holds p hp).2.lt
    omega
  · intro p hp
    simp only [List.flatten_cons, List.singleton_append, List.mem_cons] at hp
    rcases hp with rfl | hp
    · exact ⟨h.below.size, ho⟩
    · obtain ⟨h1, h2⟩ := h.holds p hp
      exact ⟨h1, h2.block (Below.heap_alloc w x p.1 h2.lt)⟩
/-- one block changed into another world's -/
theorem Mem.change (h : Mem W0 w L) (ha : At L b o u) {w' : World} (hb : Below W0.heap.size W0 w') (hsame : ∀ i, i < w.heap.size → i ≠ b → w'.heap[i]? = w.heap[i]?)
    {b' : Nat} {o' : SObj} (hb' : b' = b ∨ w.heap.size ≤ b') (ho : Holds w' b' o') : Mem W0 w' (u b' o') := by
  obtain ⟨pre, post, h1, h2⟩ := ha
  have hn := h.nodup
  have hh := h.holds
  have hsz := h.below.size
  rw [h1] at hn hh
  simp only [List.map_append, List.map_cons] at hn
  have hb0 : W0.heap.size ≤ b := (hh (b, o) (by simp)).1
  have ne : ∀ p ∈ pre ++ post, p.1 ≠ b := by
    intro p hp e
    rw [List.nodup_append] at hn
    obtain ⟨_, n2, n3⟩ := hn
    rw [List.nodup_cons] at n2
    rcases List.mem_append.1 hp with hp | hp
    · exact n3 p.1 (List.mem_map_of_mem hp) b (by simp) e
    · exact n2.1 (e ▸ List.mem_map_of_mem hp)
  have hold : ∀ p ∈ pre ++ post, W0.heap.size ≤ p.1 ∧ Holds w' p.1 p.2 := by
    intro p hp
    have hp' : p ∈ pre ++ (b, o) :: post := by
      rcases List.mem_append.1 hp with hp | hp <;> simp [hp]
    obtain ⟨h3, h4⟩ := hh p hp'
    exact ⟨h3, h4.block (hsame p.1 h4.lt (ne p hp))⟩
  refine ⟨hb, ?_, ?_⟩
  · rw [h2]
    simp only [List.map_append, List.map_cons]
    rcases hb' with rfl | hb'
    · exact hn
    · have hn' : ((pre ++ post).map (·.1)).Nodup := by
        rw [List.map_append]
        exact (List.Sublist.append (List.Sublist.refl _) (List.sublist_cons_self _ _)).nodup hn
      have hlt : ∀ p ∈ pre ++ post, p.1 < w.heap.size := fun p hp => by
        have hp' : p ∈ pre ++ (b, o) :: post := by
          rcases List.mem_append.1 hp with hp | hp <;> simp [hp]
        exact (hh p hp').2.lt
      rw [List.map_append, List.nodup_append] at hn'
      rw [List.nodup_append, List.nodup_cons]
      refine ⟨hn'.1, ⟨fun hm => ?_, hn'.2.1⟩, ?_⟩
      · obtain ⟨p, hp, e⟩ := List.mem_map.1 hm
        have := hlt p (by simp [hp])
        omega
      · intro x hx y hy
        rcases List.mem_cons.1 hy with rfl | hy
        · obtain ⟨p, hp, e⟩ := List.mem_map.1 hx
          have := hlt p (by simp [hp])
          omega
        · exact hn'.2.2 x hx y hy
  · intro p hp
    rw [h2] at hp
    rcases List.mem_append.1 hp with hp | hp
    · exact hold p (by simp [hp])
    · rcases List.mem_cons.1 hp with rfl | hp
      · exact ⟨by rcases hb' with rfl | hb' <;> simp only <;> omega, ho⟩
      · exact hold p (by simp [hp])
theorem Mem.drew (h : Mem W0 w L) : Mem W0 w.drew L := ⟨h.below.drew, h.nodup, fun p hp => ⟨(h.holds p hp).1, (h.holds p hp).2.block rfl⟩⟩

theorem Holds.cell {cs : List Value} {t : TypeId} {k i : Nat} (h : Holds w b (.row cs t k)) {v : Value} (hv : cs[i]? = some v) : w.cell? ⟨b, i, none⟩ = some v := by
  obtain ⟨rest, fr, h1, _, _⟩ := h
  simp only [World.cell?, h1]
  have hi : i < cs.length := by
    rcases Nat.lt_or_ge i cs.length with h | h
    · exact h
    · rw [List.getElem?_eq_none h] at hv; cases hv
  simp [List.getElem?_append_left hi, hv]
theorem Holds.unfrozen {cs : List Value} {t : TypeId} {k i : Nat} (h : Holds w b (.row cs t k)) (hi : i < k) : w.frozen? ⟨b, i, none⟩ = false := by
  obtain ⟨rest, fr, h1, _, h3⟩ := h
  simp only [World.frozen?, h1]
  rcases h3 with rfl | h3
  · simp
  · simp; omega
theorem Holds.set {cs : List Value} {t : TypeId} {k i : Nat} (h : Holds w b (.row cs t k)) (hi : i < cs.length) (v : Value) : Holds (w.setCell ⟨b, i, none⟩ v) b (.row (cs.set i v) t k) := by
  obtain ⟨rest, fr, h1, h2, h3⟩ := h
  refine ⟨rest, fr, ?_, by simpa using h2, h3⟩
  simp only [World.setCell, Array.getElem?_modify, h1]
  simp [List.set_append_left _ _ hi]
theorem Mem.set {cs : List Value} {t : TypeId} {k i : Nat} (h : Mem W0 w L) (ha : At L b (.row cs t k) u) (hi : i < cs.length) (v : Value) :
    Mem W0 (w.setCell ⟨b, i, none⟩ v) (u b (.row (cs.set i v) t k)) := by
  obtain ⟨h0, h1⟩ := h.get ha
  exact h.change ha (h.below.setCell (by simpa using h0) v) (fun j _ hj => Below.heap_setCell w _ v j (by simpa using hj)) (.inl rfl) (h1.set hi v)
/-- a cell that was there at the start reads as it did -/
theorem Mem.old (h : Mem W0 w L) {a : Addr} (ha : a.block < W0.heap.size) : w.cell? a = W0.cell? a := h.below.cell ha
theorem Mem.old_lt (_h : Mem W0 w L) {a : Addr} {v : Value} (ha : W0.cell? a = some v) : w.cell? a = some v := by
  rw [_h.old (World.block_lt_of_cell? _ _ ha), ha]
end mem

/-! ### Posts and judgements -/
abbrev SPost := Exit → (Nat → Value) → List Deferred → List Seg → Prop
def lift (W0 : World) (n : Nat) (SQ : SPost) : Exit → Act → World → Prop :=
  fun e a w => ∃ F L, Sl n a F ∧ Mem W0 w L ∧ SQ e F a.defers L

def C (P : Program) (W0 : World) (n : Nat) (SQ : SPost) (c : Code) (F : Nat → Value) (D : List Deferred) (L : List Seg) : Prop :=
  ∀ a w, Sl n a F → a.defers = D → Mem W0 w L → c.wp P (lift W0 n SQ) a w
def G (P : Program) (W0 : World) (n : Nat) (SQ : SPost) (ops : Array Oper) (rest : List Oper) (F : Nat → Value) (D : List Deferred) (L : List Seg) : Prop :=
  ∀ a w, Sl n a F → a.defers = D → Mem W0 w L → wpList P ops (lift W0 n SQ) rest a w
def FnS (P : Program) (W0 : World) (f : FuncId) (args : Array Value) (L : List Seg) (R : Ending → List Seg → Prop) : Prop :=
  ∀ w, Mem W0 w L → Calls P f args w fun e w' => ∃ L', Mem W0 w' L' ∧ R e L'

def SPost.seq (K : (Nat → Value) → List Deferred → List Seg → Prop) (SQ : SPost) : SPost
  | .normal, F, D, L => K F D L
  | e, F, D, L => SQ e F D L
def SPost.inBlock (id : Nat) (SQ : SPost) : SPost
  | .exit id', F, D, L => bif Nat.beq id' id then SQ .normal F D L else SQ (.exit id') F D L
  | e, F, D, L => SQ e F D L

section rules
variable {P : Program} {W0 : World} {n : Nat} {SQ : SPost} {F : Nat → Value} {D : List Deferred} {L : List Seg}

theorem C.mono {SQ' : SPost} {c : Code} (h : C P W0 n SQ c F D L) (hq : ∀ e F D L, SQ e F D L → SQ' e F D L) : C P W0 n SQ' c F D L :=
  fun a w hs hd hm => Code.wp_mono (fun e _ _ ⟨F, L, h1, h2, h3⟩ => ⟨F, L, h1, h2, hq e _ _ _ h3⟩) (h a w hs hd hm)
theorem C.fix {c : Code} {d : Nat} {v : Value} (h : F d = v) (k : C P W0 n SQ c (upd F d v) D L) : C P W0 n SQ c F D L := by
  rwa [upd_eq h] at k
theorem C.skip (h : SQ .normal F D L) : C P W0 n SQ .skip F D L := fun _ _ hs hd hm => wp_skip ⟨F, L, hs, hm, hd ▸ h⟩
theorem C.label {l : Nat} (h : SQ .normal F D L) : C P W0 n SQ (.label l) F D L := fun _ _ hs hd hm => wp_label ⟨F, L, hs, hm, hd ▸ h⟩
theorem C.exit {id : Nat} (h : SQ (.exit id) F D L) : C P W0 n SQ (.exit id) F D L := fun _ _ hs hd hm => wp_exit ⟨F, L, hs, hm, hd ▸ h⟩
theorem C.ret (h : SQ .ret F D L) : C P W0 n SQ .ret F D L := fun _ _ hs hd hm => wp_ret ⟨F, L, hs, hm, hd ▸ h⟩
theorem C.seq {x y : Code} (h : C P W0 n (SPost.seq (fun F D L => C P W0 n SQ y F D L) SQ) x F D L) : C P W0 n SQ (.seq x y) F D L := by
  intro a w hs hd hm
  refine wp_seq (Code.wp_mono ?_ (h a w hs hd hm))
  rintro e a' w' ⟨F', L', h1, h2, h3⟩
  cases e with
  | normal => exact h3 a' w' h1 rfl h2
  | exit id => exact ⟨F', L', h1, h2, h3⟩
  | goto l => exact ⟨F', L', h1, h2, h3⟩
  | ret => exact ⟨F', L', h1, h2, h3⟩
  | panic ch => exact ⟨F', L', h1, h2, h3⟩
  | outgrown => exact ⟨F', L', h1, h2, h3⟩
/-- a statement in the midst: what holds between the two -/
theorem C.cut {x y : Code} (I : (Nat → Value) → List Deferred → List Seg → Prop) (h : C P W0 n (SPost.seq I SQ) x F D L) (k : ∀ F D L, I F D L → C P W0 n SQ y F D L) : C P W0 n SQ (.seq x y) F D L :=
  C.seq (h.mono fun e F D L hq => by cases e <;> first | exact k F D L hq | exact hq)
theorem C.block {id : Nat} {c : Code} (h : C P W0 n (SQ.inBlock id) c F D L) : C P W0 n SQ (.block id c) F D L := by
  intro a w hs hd hm
  refine wp_block (Code.wp_mono ?_ (h a w hs hd hm))
  rintro e a' w' ⟨F', L', h1, h2, h3⟩
  cases e with
  | exit id' =>
    simp only [SPost.inBlock] at h3
    simp only [Exit.inBlock]
    split
    · rename_i he; subst he; simp at h3; exact ⟨F', L', h1, h2, h3⟩
    · rename_i he
      have hb : Nat.beq id' id = false := by
        cases hb : Nat.beq id' id with
        | false => rfl
        | true => exact absurd (Nat.eq_of_beq_eq_true hb) he
      rw [hb] at h3; exact ⟨F', L', h1, h2, h3⟩
  | normal => exact ⟨F', L', h1, h2, h3⟩
  | goto l => exact ⟨F', L', h1, h2, h3⟩
  | ret => exact ⟨F', L', h1, h2, h3⟩
  | panic ch => exact ⟨F', L', h1, h2, h3⟩
  | outgrown => exact ⟨F', L', h1, h2, h3⟩
theorem C.condB {c : Operand} {x y : Code} (b : Bool) (hc : ev F c = .bool b) (ht : b = true → C P W0 n SQ x F D L) (hf : b = false → C P W0 n SQ y F D L) : C P W0 n SQ (.cond c x y) F D L := by
  intro a w hs hd hm
  refine wp_cond (t := b) (by rw [hs.eval]; exact hc) ?_
  cases b with
  | true => exact ht rfl a w hs hd hm
  | false => exact hf rfl a w hs hd hm
theorem C.cond {c : Operand} {x y : Code} (p : Prop) [Decidable p] (hc : ev F c = .bool (decide p)) (ht : p → C P W0 n SQ x F D L) (hf : ¬ p → C P W0 n SQ y F D L) : C P W0 n SQ (.cond c x y) F D L :=
  C.condB (decide p) hc (fun h => ht (of_decide_eq_true h)) (fun h => hf (of_decide_eq_false h))
theorem C.condT {c : Operand} {x y : Code} (hc : ev F c = .bool true) (ht : C P W0 n SQ x F D L) : C P W0 n SQ (.cond c x y) F D L := C.condB true hc (fun _ => ht) (fun h => by cases h)
theorem C.condF {c : Operand} {x y : Code} (hc : ev F c = .bool false) (hf : C P W0 n SQ y F D L) : C P W0 n SQ (.cond c x y) F D L := C.condB false hc (fun h => by cases h) (fun _ => hf)
theorem C.yes {c : Operand} {x y : Code} {p : Prop} [Decidable p] (hc : ev F c = .bool (decide p)) (hp : p) (ht : C P W0 n SQ x F D L) : C P W0 n SQ (.cond c x y) F D L := C.condT (by rw [hc, decide_eq_true hp]) ht
theorem C.no {c : Operand} {x y : Code} {p : Prop} [Decidable p] (hc : ev F c = .bool (decide p)) (hp : ¬ p) (hf : C P W0 n SQ y F D L) : C P W0 n SQ (.cond c x y) F D L := C.condF (by rw [hc, decide_eq_false hp]) hf
theorem C.loop {c : Code} (I : Nat → (Nat → Value) → List Deferred → List Seg → Prop) (h0 : ∃ m, I m F D L)
    (round : ∀ m F D L, I m F D L → C P W0 n (SPost.seq (fun F D L => ∃ m', m' < m ∧ I m' F D L) SQ) c F D L) : C P W0 n SQ (.loop c) F D L := by
  obtain ⟨m, h0⟩ := h0
  intro a w hs hd hm b k cs
  have key : ∀ m F D L, I m F D L → ∀ a w, Sl n a F → a.defers = D → Mem W0 w L →
      ∃ e a' w', lift W0 n SQ e a' w' ∧ Arrives P (lone (b.at a (.code c :: .inLoop c :: k)) cs w) b k cs e a' w' := by
    intro m
    induction m using Nat.strongRecOn with
    | _ m ih =>
      intro F D L hI a w hs hd hm
      obtain ⟨e, a₁, w₁, ⟨F₁, L₁, h1, h2, h3⟩, harr⟩ := round m F D L hI a w hs hd hm b (.inLoop c :: k) cs
      cases e with
      | normal =>
        obtain ⟨m', hlt, hI'⟩ := h3
        obtain ⟨e₂, a₂, w₂, hq₂, harr₂⟩ := ih m' hlt F₁ _ L₁ hI' a₁ w₁ h1 rfl h2
        exact ⟨e₂, a₂, w₂, hq₂, .of_steps (Steps.trans harr (.one step_inLoop)) harr₂⟩
      | exit id => exact ⟨_, a₁, w₁, ⟨F₁, L₁, h1, h2, h3⟩, .pass (x := .inLoop c) rfl (fun _ _ => .inl (by simp)) harr⟩
      | goto l => exact ⟨_, a₁, w₁, ⟨F₁, L₁, h1, h2, h3⟩, .pass (x := .inLoop c) rfl (fun _ _ => .inl (by simp)) harr⟩
      | ret => exact ⟨_, a₁, w₁, ⟨F₁, L₁, h1, h2, h3⟩, .pass (x := .inLoop c) rfl (fun _ _ => .inl (by simp)) harr⟩
      | panic ch => exact ⟨_, a₁, w₁, ⟨F₁, L₁, h1, h2, h3⟩, .pass (x := .inLoop c) rfl (fun _ _ => .inl (by simp)) harr⟩
      | outgrown => exact ⟨_, a₁, w₁, ⟨F₁, L₁, h1, h2, h3⟩, .pass (x := .inLoop c) rfl (fun _ _ => .inl (by simp)) harr⟩
  obtain ⟨e, a', w', hq, harr⟩ := key m F D L h0 a w hs hd hm
  exact ⟨e, a', w', hq, .of_steps (.one step_loop) harr⟩

/-! ### Regions -/
theorem C.region {id : Nat} {l : List Oper} (h : G P W0 n SQ l.toArray l F D L) : C P W0 n SQ (.region id l.toArray false) F D L :=
  fun a w hs hd hm => wp_region_lit (h a w hs hd hm)
theorem G.nil {ops : Array Oper} (h : SQ .normal F D L) : G P W0 n SQ ops [] F D L := fun _ _ hs hd hm => wpList_nil ⟨F, L, hs, hm, hd ▸ h⟩
theorem G.fix {ops : Array Oper} {rest : List Oper} {d : Nat} {v : Value} (h : F d = v) (k : G P W0 n SQ ops rest (upd F d v) D L) : G P W0 n SQ ops rest F D L := by
  rwa [upd_eq h] at k

/-- the operation runs: it has no guard, or its guard lets it -/
def runs (n : Nat) (ops : Array Oper) (F : Nat → Value) (o : Oper) : Prop :=
  match o.guard with
  | none => True
  | some (j, b) => ∃ t, (ops[j]?).bind (·.dst) = some t ∧ Nat.blt t n = true ∧ F t = .bool b
theorem yielded_of {ops : Array Oper} {a : Act} (hs : Sl n a F) {j t : Nat} {b : Bool} (h1 : (ops[j]?).bind (·.dst) = some t) (h2 : Nat.blt t n = true) (h3 : F t = .bool b) : yielded ops a.tmps j = some b := by
  have hlt : t < a.tmps.size := by rw [hs.size]; exact Nat.le_of_ble_eq_true h2
  have ht := hs.at_ t
  rw [h3] at ht
  unfold yielded
  rw [h1]
  simp only [Option.bind_some]
  simp only [Array.getD, hlt, dif_pos] at ht
  simp only [hlt, getElem?_pos]
  rw [show a.tmps[t] = Value.bool b from ht]
theorem wanted_of {ops : Array Oper} {a : Act} {o : Oper} (hs : Sl n a F) (h : runs n ops F o) : Region.wanted o (yielded ops a.tmps) = true := by
  unfold runs at h
  unfold Region.wanted
  split at h
  · rename_i hg; rw [hg]
  · rename_i j b hg
    obtain ⟨t, h1, h2, h3⟩ := h
    rw [hg]
    simp [yielded_of hs h1 h2 h3]
theorem G.skip {ops : Array Oper} {o : Oper} {rest : List Oper} {j t : Nat} {b : Bool} (hg : o.guard = some (j, b)) (h1 : (ops[j]?).bind (·.dst) = some t) (h2 : Nat.blt t n = true) (h3 : F t = .bool !b)
    {d : Nat} (hd : o.dst = some d) (hn : Nat.blt d n = true) (k : G P W0 n SQ ops rest (upd F d undef) D L) : G P W0 n SQ ops (o :: rest) F D L := by
  intro a w hs hD hm
  unfold wpList
  have hw : Region.wanted o (yielded ops a.tmps) = false := by
    unfold Region.wanted
    rw [hg]
    simp only [yielded_of hs h1 h2 h3]
    cases b <;> rfl
  rw [if_neg (by simp [hw])]
  exact k _ w (hs.put hd hn _) (by rw [put_defers]; exact hD) hm
/-- a slot that holds a bool, parted -/
theorem G.fork {ops : Array Oper} {rest : List Oper} {t : Nat} (p : Prop) [Decidable p] (h : F t = .bool (decide p)) (ht : p → G P W0 n SQ ops rest (upd F t (.bool true)) D L) (hf : ¬ p → G P W0 n SQ ops rest (upd F t (.bool false)) D L) : G P W0 n SQ ops rest F D L := by
  by_cases hp : p
  · have := ht hp
    rwa [upd_eq (by rw [h, decide_eq_true hp])] at this
  · have := hf hp
    rwa [upd_eq (by rw [h, decide_eq_false hp])] at this
theorem G.forkB {ops : Array Oper} {rest : List Oper} {t : Nat} (b : Bool) (h : F t = .bool b) (ht : b = true → G P W0 n SQ ops rest (upd F t (.bool true)) D L) (hf : b = false → G P W0 n SQ ops rest (upd F t (.bool false)) D L) : G P W0 n SQ ops rest F D L := by
  cases b with
  | true => have := ht rfl; rwa [upd_eq h] at this
  | false => have := hf rfl; rwa [upd_eq h] at this
theorem G.yes {ops : Array Oper} {rest : List Oper} {t : Nat} {p : Prop} [Decidable p] (h : F t = .bool (decide p)) (hp : p) (k : G P W0 n SQ ops rest (upd F t (.bool true)) D L) : G P W0 n SQ ops rest F D L := by
  rwa [upd_eq (by rw [h, decide_eq_true hp])] at k
theorem G.no {ops : Array Oper} {rest : List Oper} {t : Nat} {p : Prop} [Decidable p] (h : F t = .bool (decide p)) (hp : ¬ p) (k : G P W0 n SQ ops rest (upd F t (.bool false)) D L) : G P W0 n SQ ops rest F D L := by
  rwa [upd_eq (by rw [h, decide_eq_false hp])] at k
/-- any operation that gives a value -/
theorem G.eff {ops : Array Oper} {o : Oper} {rest : List Oper} (hr : runs n ops F o) {d : Nat} (hd : o.dst = some d) (hn : Nat.blt d n = true)
    (h : ∀ w, Mem W0 w L → ∃ v w' L', (execOp (ev F) o).run P w = .ok (.value v) w' ∧ Mem W0 w' L' ∧ G P W0 n SQ ops rest (upd F d v) D L') : G P W0 n SQ ops (o :: rest) F D L := by
  intro a w hs hD hm
  unfold wpList
  rw [if_pos (wanted_of hs hr)]
  refine .inl ?_
  obtain ⟨v, w', L', h1, h2, h3⟩ := h w hm
  unfold Oper.wp
  rw [hs.eval_fun, h1]
  exact h3 _ w' (hs.put hd hn v) (by rw [put_defers]; exact hD) h2
theorem G.effSkip {ops : Array Oper} {o : Oper} {rest : List Oper} (hr : runs n ops F o) (hd : o.dst = none)
    (h : ∀ w, Mem W0 w L → ∃ w' L', (execOp (ev F) o).run P w = .ok .skip w' ∧ Mem W0 w' L' ∧ G P W0 n SQ ops rest F D L') : G P W0 n SQ ops (o :: rest) F D L := by
  intro a w hs hD hm
  unfold wpList
  rw [if_pos (wanted_of hs hr)]
  refine .inl ?_
  obtain ⟨w', L', h1, h2, h3⟩ := h w hm
  unfold Oper.wp
  rw [hs.eval_fun, h1, Oper.upon_skip, hd]
  exact h3 _ w' hs hD h2
/-- an operation that leaves the world alone -/
theorem G.val {ops : Array Oper} {o : Oper} {rest : List Oper} (v : Value) (hr : runs n ops F o) {d : Nat} (hd : o.dst = some d) (hn : Nat.blt d n = true)
    (h : ∀ w, Mem W0 w L → (execOp (ev F) o).run P w = .ok (.value v) w) (k : G P W0 n SQ ops rest (upd F d v) D L) : G P W0 n SQ ops (o :: rest) F D L :=
  G.eff hr hd hn fun w hm => ⟨v, w, L, h w hm, hm, k⟩
/-- a call of a function of the program -/
theorem G.enter {ops : Array Oper} {o : Oper} {rest : List Oper} {f : FuncId} {args : Array Value} (hr : runs n ops F o) {d : Nat} (hd : o.dst = some d) (hn : Nat.blt d n = true)
    (h : ∀ w, Mem W0 w L → (execOp (ev F) o).run P w = .ok (.enter f args) w) {R : Ending → List Seg → Prop} (hf : FnS P W0 f args L R)
    (k : ∀ e L', R e L' → match e with
      | .returned v => G P W0 n SQ ops rest (upd F d v) D L'
      | .panicked chain => SQ (.panic chain) F D L'
      | .outgrown => False) : G P W0 n SQ ops (o :: rest) F D L := by
  intro a w hs hD hm
  unfold wpList
  rw [if_pos (wanted_of hs hr)]
  refine .inl ?_
  unfold Oper.wp
  rw [hs.eval_fun, h w hm]
  rw [Oper.upon_enter]
  refine (hf w hm).mono ?_
  rintro e w' ⟨L', h1, h2⟩
  have h3 := k e L' h2
  cases e with
  | returned v => exact h3 _ w' (hs.put hd hn v) (by rw [put_defers]; exact hD) h1
  | panicked chain => exact ⟨F, L', hs, h1, hD ▸ h3⟩
  | outgrown => exact h3.elim
/-- an operation that panics -/
theorem G.panics {ops : Array Oper} {o : Oper} {rest : List Oper} (v : Value) (hr : runs n ops F o)
    (h : ∀ w, Mem W0 w L → ∃ w' L', (execOp (ev F) o).run P w = .halt (.panic v) w' ∧ Mem W0 w' L' ∧ SQ (.panic [{ v, recovered := false }]) F D L') : G P W0 n SQ ops (o :: rest) F D L := by
  intro a w hs hD hm
  unfold wpList
  rw [if_pos (wanted_of hs hr)]
  refine .inl ?_
  obtain ⟨w', L', h1, h2, h3⟩ := h w hm
  unfold Oper.wp
  rw [hs.eval_fun, h1]
  exact ⟨F, L', hs, h2, hD ▸ h3⟩
theorem G.defer {ops : Array Oper} {o : Oper} {rest : List Oper} (d : Deferred) (hr : runs n ops F o) (hd : o.dst = none)
    (h : ∀ w, Mem W0 w L → (execOp (ev F) o).run P w = .ok (.defer d) w) (k : G P W0 n SQ ops rest F (d :: D) L) : G P W0 n SQ ops (o :: rest) F D L := by
  intro a w hs hD hm
  unfold wpList
  rw [if_pos (wanted_of hs hr)]
  refine .inl ?_
  unfold Oper.wp
  rw [hs.eval_fun, h w hm, Oper.upon_defer, hd]
  exact k _ w ⟨hs.size, hs.at_⟩ (by simp [Act.put, hD]) hm
end rules

/-! ### Functions -/
def retV (rs : List ResultVar) (F : Nat → Value) : Option Value :=
  match rs with
  | [.tmp t] => some (F t)
  | [.tmp t, .tmp u] => some (.tuple #[F t, F u])
  | [.tmp t, .tmp u, .tmp x] => some (.tuple #[F t, F u, F x])
  | [.tmp t, .tmp u, .tmp x, .tmp y] => some (.tuple #[F t, F u, F x, F y])
  | [] => some (.tuple #[])
  | _ => none
/-- what the function's results come to, read at its end -/
def Res (P : Program) (W0 : World) (fn : Func) (F : Nat → Value) (L : List Seg) (v : Value) : Prop :=
  ∀ a w, Sl fn.ntmps a F → Mem W0 w L → (results fn a.tmps).run P w = .ok v w
theorem Res.of {P : Program} {W0 : World} {fn : Func} {F : Nat → Value} {L : List Seg} {v : Value} {rs : List ResultVar} (h : fn.results = rs.toArray) (hv : retV rs F = some v) : Res P W0 fn F L v := by
  intro a w hs _
  unfold retV at hv
  split at hv <;> simp only [Option.some.injEq, reduceCtorEq] at hv <;> subst hv <;> simp [results, h, ← hs.at_]
def retPost (P : Program) (W0 : World) (fn : Func) (R : Ending → List Seg → Prop) : SPost
  | .normal, F, D, L | .ret, F, D, L => D = [] ∧ ∃ v, Res P W0 fn F L v ∧ R (.returned v) L
  | .panic chain, _, D, L => D = [] ∧ R (.panicked chain) L
  | _, _, _, _ => False

theorem argF_at (args : List Value) (m t : Nat) : (args ++ List.replicate m undef)[t]?.getD undef = argF args t := by
  induction args generalizing t with
  | nil =>
    simp only [List.nil_append, argF]
    rw [List.getElem?_replicate]
    split <;> rfl
  | cons v vs ih =>
    cases t with
    | zero => rfl
    | succ t => simpa [argF] using ih t
theorem FnS.of {P : Program} {W0 : World} {f : FuncId} {fn : Func} {c : Code} {args : List Value} {L : List Seg} {R : Ending → List Seg → Prop}
    (hf : P.funcs[f]? = some fn) (hb : fn.body = some c) (hn : Nat.ble args.length fn.ntmps = true)
    (h : C P W0 fn.ntmps (retPost P W0 fn R) c (argF args) [] L) : FnS P W0 f args.toArray L R := by
  intro w hm
  refine calls_of_wp hf hb (Code.wp_mono ?_ (h _ w ⟨?_, fun t => ?_⟩ rfl hm))
  · rintro e a' w' ⟨F', L', h1, h2, h3⟩
    cases e with
    | normal =>
      obtain ⟨hd, v, hv, hR⟩ := h3
      exact ⟨hd, v, hv _ _ h1 h2, L', h2, hR⟩
    | ret =>
      obtain ⟨hd, v, hv, hR⟩ := h3
      exact ⟨hd, v, hv _ _ h1 h2, L', h2, hR⟩
    | panic ch =>
      obtain ⟨hd, hR⟩ := h3
      exact ⟨hd, L', h2, hR⟩
    | exit id => exact h3.elim
    | goto l => exact h3.elim
    | outgrown => exact h3.elim
  · have := Nat.le_of_ble_eq_true hn
    simp only [Array.size_append, List.size_toArray, Array.size_replicate]
    omega
  · rw [← argF_at args (fn.ntmps - args.toArray.size) t]
    simp only [Array.getD_eq_getD_getElem?]
    congr 1
    rw [← Array.getElem?_toList]
    simp
theorem FnS.mono {P : Program} {W0 : World} {f : FuncId} {args : Array Value} {L : List Seg} {R R' : Ending → List Seg → Prop} (h : FnS P W0 f args L R) (hr : ∀ e L', R e L' → R' e L') : FnS P W0 f args L R' :=
  fun w hm => (h w hm).mono fun e _ ⟨L', h1, h2⟩ => ⟨L', h1, hr e L' h2⟩
/-- the heap's list in another order -/
theorem FnS.perm {P : Program} {W0 : World} {f : FuncId} {args : Array Value} {L L' : List Seg} {R : Ending → List Seg → Prop} (h : FnS P W0 f args L' R) (hp : L.flatten.Perm L'.flatten) : FnS P W0 f args L R :=
  fun w hm => h w (hm.of_flat hp)
end Go.SL
