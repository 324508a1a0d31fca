/-
  Rows made of chunks of one size (slices of structs, of arrays), copies into them, bytes read out of them. No program in sight.
-/
import Derived.Test.YtjfjmhmfhkdcbabSL7
namespace Go.SL
open Go Go.RowKit

section chunks
variable {α : Type} {f : α → List Value} {k : Nat}
theorem chunk_length : ∀ {l : List α}, (∀ x ∈ l, (f x).length = k) → (l.flatMap f).length = k * l.length
  | [], _ => by simp
  | x :: l, h => by
    have := chunk_length (l := l) (fun y hy => h y (by simp [hy]))
    simp only [List.flatMap_cons, List.length_append, List.length_cons, this, h x (by simp), Nat.mul_succ]
    omega
theorem chunk_get : ∀ {l : List α} (_ : ∀ x ∈ l, (f x).length = k) {i j : Nat} (_ : j < k) (hi : i < l.length), (l.flatMap f)[k * i + j]? = (f l[i])[j]?
  | x :: l, h, 0, j, hj, _ => by
    have hx := h x (by simp)
    simp only [List.flatMap_cons, Nat.mul_zero, Nat.zero_add, List.getElem_cons_zero]
    exact List.getElem?_append_left (by omega)
  | x :: l, h, i + 1, j, hj, hi => by
    have hx := h x (by simp)
    have := chunk_get (l := l) (fun y hy => h y (by simp [hy])) (i := i) hj (by simpa using hi)
    simp only [List.flatMap_cons, List.getElem_cons_succ]
    rw [List.getElem?_append_right (by rw [hx, Nat.mul_succ]; omega), hx, ← this]
    congr 1
    rw [Nat.mul_succ]
    omega
/-- a range within one chunk is written -/
theorem chunk_put : ∀ {l : List α} (_ : ∀ x ∈ l, (f x).length = k) {i off : Nat} {vs : List Value} (_ : off + vs.length ≤ k) (hi : i < l.length) {y : α} (_ : (f l[i]).take off ++ vs ++ (f l[i]).drop (off + vs.length) = f y),
    (l.flatMap f).take (k * i + off) ++ vs ++ (l.flatMap f).drop (k * i + off + vs.length) = (l.set i y).flatMap f
  | x :: l, h, 0, off, vs, ho, _, y, e => by
    have hx := h x (by simp)
    simp only [List.getElem_cons_zero] at e
    simp only [List.flatMap_cons, Nat.mul_zero, Nat.zero_add, List.set_cons_zero]
    rw [List.take_append_of_le_length (by omega), List.drop_append_of_le_length (by omega), ← e]
    simp
  | x :: l, h, i + 1, off, vs, ho, hi, y, e => by
    have hx := h x (by simp)
    have h0 := chunk_put (l := l) (fun z hz => h z (by simp [hz])) (i := i) ho (by simpa using hi) (by simpa using e)
    have e1 : k * (i + 1) + off = (f x).length + (k * i + off) := by rw [hx, Nat.mul_succ]; omega
    simp only [List.flatMap_cons, List.set_cons_succ]
    rw [← h0, e1, List.take_length_add_append, show (f x).length + (k * i + off) + vs.length = (f x).length + (k * i + off + vs.length) by omega, List.drop_length_add_append]
    simp
theorem list_put1 (l : List Value) {p : Nat} (h : p < l.length) (v : Value) : l.set p v = l.take p ++ [v] ++ l.drop (p + 1) := by
  rw [List.set_eq_take_append_cons_drop, if_pos h]
  simp
theorem chunk_set {l : List α} (h : ∀ x ∈ l, (f x).length = k) {i off : Nat} {v : Value} (ho : off < k) (hi : i < l.length) {y : α} (e : (f l[i]).set off v = f y) :
    (l.flatMap f).set (k * i + off) v = (l.set i y).flatMap f := by
  have hl := h l[i] (List.getElem_mem hi)
  have hlen := chunk_length h
  have hlt : k * i + off < (l.flatMap f).length := by
    rw [hlen]
    have : k * (i + 1) ≤ k * l.length := Nat.mul_le_mul_left k hi
    rw [Nat.mul_succ] at this
    omega
  rw [list_put1 _ hlt]
  refine chunk_put h (vs := [v]) (by simp; omega) hi ?_
  rw [← e, list_put1 _ (by omega)]
  simp
theorem chunk_replicate (x : α) (m : Nat) : (List.replicate m x).flatMap f = (List.replicate m (f x)).flatten := by
  induction m with
  | zero => rfl
  | succ m ih => simp [List.replicate_succ, ih]
end chunks
theorem zeroRow_chunk {α : Type} {f : α → List Value} {z : Value} {x : α} {sz : Nat} (hz : z.cells.toList = f x) (hs : (f x).length = sz) (m : Nat) : zeroRow z m sz = (List.replicate m x).flatMap f := by
  have hl : ∀ y ∈ List.replicate m x, (f y).length = sz := fun y hy => by rw [List.eq_of_mem_replicate hy]; exact hs
  apply List.ext_getElem?
  intro i
  by_cases hi : i < m * sz
  · have h0 : 0 < sz := Nat.pos_of_ne_zero fun e => by subst e; simp at hi
    have hq : i / sz < m := (Nat.div_lt_iff_lt_mul h0).2 hi
    have hr : i % sz < sz := Nat.mod_lt _ h0
    have e := Nat.div_add_mod i sz
    have h2 := chunk_get hl (i := i / sz) (j := i % sz) hr (by simpa using hq)
    rw [e] at h2
    rw [h2]
    simp only [List.getElem_replicate, zeroRow, List.getElem?_map, List.getElem?_range hi, Option.map_some]
    have hc : i % sz < z.cells.size := by rw [← Array.length_toList, hz, hs]; exact hr
    rw [getElem!_pos z.cells _ hc, ← hz, Array.getElem?_toList]
    simp [hc]
  · rw [List.getElem?_eq_none (by simp; omega), List.getElem?_eq_none (by rw [chunk_length hl]; simp; rw [Nat.mul_comm]; omega)]

theorem setAt_eq : ∀ (vs cs : List Value) (off : Nat), off + vs.length ≤ cs.length → setAt cs off vs = cs.take off ++ vs ++ cs.drop (off + vs.length)
  | [], cs, off, _ => by simp [setAt]
  | v :: vs, cs, off, h => by
    simp only [List.length_cons] at h
    rw [setAt, setAt_eq vs _ _ (by rw [List.length_set]; omega)]
    have h1 : (cs.set off v).take (off + 1) = cs.take off ++ [v] := by
      rw [list_put1 _ (by omega), List.take_append_of_le_length (by simp; omega), List.take_of_length_le (by simp; omega)]
    have h2 : (cs.set off v).drop (off + 1 + vs.length) = cs.drop (off + (vs.length + 1)) := by
      rw [List.drop_set_of_lt (by omega)]
      congr 1
      omega
    rw [h1, h2]
    simp
theorem Inf.uniq {P : Program} {t s b s' b' : Nat} {z z' : Value} (h : Inf P t s b z) (h' : Inf P t s' b' z') : z = z' := by
  obtain ⟨i, h1, _, _, h4⟩ := h
  obtain ⟨i', h1', _, _, h4'⟩ := h'
  rw [h1] at h1'
  cases h1'
  rw [h4] at h4'
  cases h4'
  rfl
theorem Rd.cell_at {W0 : World} {L : List Seg} {b off j : Nat} {vs : List Value} (h : Rd W0 L (some ⟨b, off, none⟩) vs) (hj : j < vs.length) (w : World) (hm : Mem W0 w L) : w.cell? ⟨b, off + j, none⟩ = vs[j]? := by
  obtain ⟨b', o', e, hc⟩ := h.cells w hm j hj
  cases e
  exact hc
theorem Mem.join {W0 w : World} {s t : Seg} {L : List Seg} (h : Mem W0 w (s :: t :: L)) : Mem W0 w ((s ++ t) :: L) := h.of_flat (by simp)
section rules
variable {P : Program} {W0 : World} {n : Nat} {SQ : SPost} {F : Nat → Value} {D : List Deferred} {L : List Seg} {ops : Array Oper} {rest : List Oper} {o : Oper}
theorem G.copyA {x y : Operand} {t t2 e : TypeId} {b off l c m c2 sz by_ : Nat} {a : Option Addr} {z : Value} {cs vs : List Value} {e' : TypeId} {kk : Nat} {u : Nat → SObj → List Seg} (ha : At L b (.row cs e' kk) u) (ho : o.op = .call { callee := .builtin .copy, args := #[x, y], argTypes := #[t, t2] }) (hr : runs n ops F o) {d : Nat} (hd : o.dst = some d) (hn : Nat.blt d n = true)
    (hu : P.underlying t = some (.slice e)) (hi : Inf P e sz by_ z) (hx : ev F x = .slice (some ⟨b, off, none⟩) l c) (hy : ev F y = .slice a m c2) (hsz0 : 0 < sz) (hvs : vs.length = min m l * sz) (hrd : Rd W0 L a vs) (hok : ∀ v ∈ vs, cellsOk v = true) (hlt : off + vs.length ≤ cs.length)
    (cs' : List Value) (hcs : cs.take off ++ vs ++ cs.drop (off + vs.length) = cs')
    (k : G P W0 n SQ ops rest (upd F d (.int .i64 (min m l : Nat))) D (u b (.row cs' e' kk))) : G P W0 n SQ ops (o :: rest) F D L :=
  G.less (L' := u b (.row cs e' kk)) (fun _ hm => hm.of_flat (by rw [ha.same])) (G.copy (fun o' => ha.again o') rfl ho hr hd hn hu hi hx hy hsz0 hvs (hrd.mono fun _ hm => hm.of_flat (by rw [ha.same])) hok hlt (by rw [hcs]; exact k))
/-! ### A slice out of its elements -/
def fillF (place : Nat → Option (Nat × Nat)) (cs : List Value) : List (Nat × Value) → Option (List Value)
  | [] => some cs
  | (i, v) :: rest =>
    match place i with
    | none => none
    | some (off, size) => bif Nat.beq v.cells.toList.length size && Nat.ble (off + v.cells.toList.length) cs.length then fillF place (setAt cs off v.cells.toList) rest else none
theorem fill_fillF (place : Nat → Option (Nat × Nat)) (ps : List (Nat × Value)) : ∀ (cells : Array Value) (cs : List Value), fillF place cells.toList ps = some cs → Instr.fill place cells ps = some cs.toArray := by
  induction ps with
  | nil =>
    intro cells cs h
    simp only [fillF, Option.some.injEq] at h
    subst h
    rfl
  | cons p rest ih =>
    obtain ⟨i, v⟩ := p
    intro cells cs h
    simp only [fillF] at h
    simp only [Instr.fill]
    cases hp : place i with
    | none => rw [hp] at h; cases h
    | some q =>
      obtain ⟨off, size⟩ := q
      rw [hp] at h
      simp only at h ⊢
      cases hb : Nat.beq v.cells.toList.length size && Nat.ble (off + v.cells.toList.length) cells.toList.length with
      | false => rw [hb] at h; cases h
      | true =>
        rw [hb] at h
        simp only [cond_true] at h
        simp only [Bool.and_eq_true] at hb
        have h1 := Nat.eq_of_beq_eq_true hb.1
        have h2 := Nat.le_of_ble_eq_true hb.2
        simp only [Array.length_toList] at h1 h2
        have hn : ¬ (v.cells.size ≠ size ∨ off + v.cells.size > cells.size) := by omega
        have hn2 : ¬ ((decide (v.cells.size ≠ size) || decide (off + v.cells.size > cells.size)) = true) := by simpa using hn
        rw [if_neg hn2]
        refine ih _ cs ?_
        rw [← h]
        congr 1
        rw [← Array.foldl_toList, Array.toList_zipIdx, setAt_fold]
        simp
theorem G.buildSliceL {t e : TypeId} {m : Nat} {parts : Array (Nat × Operand)} {sz by_ : Nat} {z : Value} {cs zs : List Value} (ho : o.op = .buildSlice t m parts) (hr : runs n ops F o) {d : Nat} (hd : o.dst = some d) (hn : Nat.blt d n = true)
    (hu : P.underlying t = some (.slice e)) (hi : Inf P e sz by_ z) (hm0 : Nat.ble (m * sz) 16777216 = true)
    (hz : ((Array.range (m * sz)).map ((if m * sz = 0 then #[] else z.cells)[· % (if m * sz = 0 then #[] else z.cells).size]!)).toList = zs) {ps : List (Nat × Value)} (hps : parts.toList.map (fun p => (p.1, ev F p.2)) = ps) (hf : fillF (fun i => some (i * sz, sz)) zs ps = some cs)
    (k : ∀ b, G P W0 n SQ ops rest (upd F d (.slice (some ⟨b, 0, none⟩) m m)) D ([(b, .row cs e cs.length)] :: L)) : G P W0 n SQ ops (o :: rest) F D L :=
  G.buildSlice ho hr hd hn hu hi hm0 (by
    subst hz
    rw [← fill_fillF _ ps _ cs hf, ← hps]
    congr 1
    simp) k
/-- a slice of no elements, its own block -/
theorem OwnS.empty (b : Nat) (t : TypeId) (sz : Nat) : OwnS (.slice (some ⟨b, 0, none⟩) 0 0) 0 [] t sz [(b, .row [] t 0)] := ⟨by simp, .inr ⟨b, 0, 0, rfl, rfl, by simp, by omega⟩⟩
theorem G.emptySlice {t e : TypeId} {sz by_ : Nat} {z : Value} (ho : o.op = .buildSlice t 0 #[]) (hr : runs n ops F o) {d : Nat} (hd : o.dst = some d) (hn : Nat.blt d n = true)
    (hu : P.underlying t = some (.slice e)) (hi : Inf P e sz by_ z) (k : ∀ b, G P W0 n SQ ops rest (upd F d (.slice (some ⟨b, 0, none⟩) 0 0)) D ([(b, .row [] e 0)] :: L)) : G P W0 n SQ ops (o :: rest) F D L :=
  G.buildSlice (cs := []) ho hr hd hn hu hi (by simp) (by simp [Instr.fill]) k
end rules
end Go.SL
