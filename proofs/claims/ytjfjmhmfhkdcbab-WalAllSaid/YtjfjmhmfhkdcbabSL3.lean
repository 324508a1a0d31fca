/-
  One rule for each operation of the model, over a heap that is told block by block (second part: slices: make, build, cut, append, copy; bytes and texts). No program in sight.
-/
import Derived.Test.YtjfjmhmfhkdcbabSL2
namespace Go.SL
open Go Go.RowKit

/-! ### What is known of the list's worlds -/
section
variable {W0 w : World} {L L' : List Seg}
theorem Mem.sub (h : Mem W0 w L) (hs : L'.flatten.Sublist L.flatten) : Mem W0 w L' :=
  ⟨h.below, (hs.map _).nodup h.nodup, fun p hp => h.holds p (hs.subset hp)⟩
theorem Mem.tail {s : Seg} (h : Mem W0 w (s :: L)) : Mem W0 w L := h.sub (by simp)
theorem Mem.perm2 {s t : Seg} (h : Mem W0 w (s :: t :: L)) : Mem W0 w (t :: s :: L) := h.of_flat (by
  simp only [List.flatten_cons, ← List.append_assoc]
  exact List.Perm.append_right _ List.perm_append_comm)
/-- less is known of a row -/
theorem Mem.forget {b : Nat} {cs : List Value} {t : TypeId} {k : Nat} {u : Nat → SObj → List Seg} (h : Mem W0 w L) (ha : At L b (.row cs t k) u) (n : Nat) : Mem W0 w (u b (.row (cs.take n) t k)) :=
  h.change ha h.below (fun _ _ _ => rfl) (.inl rfl) (by
    obtain ⟨rest, fr, h1, h2, h3⟩ := (h.get ha).2
    exact ⟨cs.drop n ++ rest, fr, by rw [← List.append_assoc, List.take_append_drop]; exact h1, by rw [← List.append_assoc, List.take_append_drop]; exact h2, h3⟩)
end

/-- what a slice's cells read as, in every world that the list tells -/
def Rd (W0 : World) (L : List Seg) (a : Option Addr) (vs : List Value) : Prop :=
  vs = [] ∨ ∃ b off, a = some ⟨b, off, none⟩ ∧ ∀ w, Mem W0 w L → ∀ j, j < vs.length → w.cell? ⟨b, off + j, none⟩ = vs[j]?
section
variable {W0 : World} {L L' : List Seg} {a : Option Addr} {vs : List Value}
theorem Rd.nil : Rd W0 L a [] := .inl rfl
theorem Rd.cells (h : Rd W0 L a vs) : ∀ w, Mem W0 w L → ∀ j, j < vs.length → ∃ b off, a = some ⟨b, off, none⟩ ∧ w.cell? ⟨b, off + j, none⟩ = vs[j]? := by
  intro w hm j hj
  rcases h with rfl | ⟨b, off, rfl, hc⟩
  · simp at hj
  · exact ⟨b, off, rfl, hc w hm j hj⟩
theorem Rd.ne (h : Rd W0 L a vs) {m sz : Nat} (hl : vs.length = m * sz) (hs : 0 < sz) (ha : a = none) : m = 0 := by
  rcases h with rfl | ⟨b, off, rfl, _⟩
  · rcases Nat.eq_zero_or_pos m with h0 | h0
    · exact h0
    · have := Nat.mul_pos h0 hs; simp at hl; omega
  · cases ha
theorem Rd.some_ (h : Rd W0 L a vs) (hl : 0 < vs.length) : ∃ b off, a = some ⟨b, off, none⟩ ∧ ∀ w, Mem W0 w L → ∀ j, j < vs.length → w.cell? ⟨b, off + j, none⟩ = vs[j]? := by
  rcases h with rfl | h
  · simp at hl
  · exact h
theorem Rd.ne1 (h : Rd W0 L a vs) (ha : a = none) : vs.length = 0 := by
  rcases h with rfl | ⟨b, off, rfl, _⟩
  · rfl
  · cases ha
theorem Rd.mono (h : Rd W0 L a vs) (hs : ∀ w, Mem W0 w L' → Mem W0 w L) : Rd W0 L' a vs := by
  rcases h with rfl | ⟨b, off, rfl, hc⟩
  · exact .inl rfl
  · exact .inr ⟨b, off, rfl, fun w hm => hc w (hs w hm)⟩
theorem Rd.cons {s : Seg} (h : Rd W0 L a vs) : Rd W0 (s :: L) a vs := h.mono fun _ hm => hm.tail
theorem Rd.sub (h : Rd W0 L a vs) (hs : L.flatten.Sublist L'.flatten) : Rd W0 L' a vs := h.mono fun _ hm => hm.sub hs
theorem Rd.row {b off : Nat} {cs : List Value} {t : TypeId} {k : Nat} {u : Nat → SObj → List Seg} (ha : At L b (.row cs t k) u) (hv : ∀ j, j < vs.length → cs[off + j]? = vs[j]?) : Rd W0 L (some ⟨b, off, none⟩) vs := by
  refine .inr ⟨b, off, rfl, fun w hm j hj => ?_⟩
  have h2 : cs[off + j]? = some vs[j] := by rw [hv j hj, List.getElem?_eq_getElem hj]
  rw [(hm.get ha).2.cell h2, List.getElem?_eq_getElem hj]
theorem Rd.row0 {b : Nat} {cs : List Value} {t : TypeId} {k : Nat} {u : Nat → SObj → List Seg} (ha : At L b (.row cs t k) u) : Rd W0 L (some ⟨b, 0, none⟩) cs := Rd.row ha (fun j _ => by simp)
/-- what stood in memory at the start -/
theorem Rd.old {b off : Nat} (h : ∀ j, j < vs.length → W0.cell? ⟨b, off + j, none⟩ = vs[j]?) : Rd W0 L (some ⟨b, off, none⟩) vs := by
  refine .inr ⟨b, off, rfl, fun w hm j hj => ?_⟩
  have h1 := h j hj
  rw [List.getElem?_eq_getElem hj] at h1 ⊢
  exact hm.old_lt h1
def cutA (a : Option Addr) (cap l sz : Nat) : Option Addr := if cap = l then a else a.map (·.add (l * sz))
theorem Rd.cut {cap l sz n : Nat} (h : Rd W0 L a vs) (hv : vs.length = n * sz) (hn : n ≤ cap) : Rd W0 L (cutA a cap l sz) (vs.drop (l * sz)) := by
  rcases h with rfl | ⟨b, off, rfl, hc⟩
  · exact .inl (by simp)
  · by_cases hl : vs.length ≤ l * sz
    · exact .inl (List.drop_eq_nil_of_le hl)
    · have hne : cap ≠ l := by
        intro e
        have : n * sz ≤ l * sz := Nat.mul_le_mul_right _ (by omega)
        omega
      refine .inr ⟨b, off + l * sz, by rw [cutA, if_neg hne]; simp [add_mul_addr], fun w hm j hj => ?_⟩
      rw [List.length_drop] at hj
      rw [List.getElem?_drop, ← hc w hm (l * sz + j) (by omega), Nat.add_assoc]
theorem Rd.take {n : Nat} (h : Rd W0 L a vs) : Rd W0 L a (vs.take n) := by
  rcases h with rfl | ⟨b, off, rfl, hc⟩
  · exact .inl (by simp)
  · refine .inr ⟨b, off, rfl, fun w hm j hj => ?_⟩
    simp only [List.length_take] at hj
    rw [hc w hm j (by omega), List.getElem?_take, if_pos (by omega)]
end

def byteV (c : UInt8) : Value := .int .u8 (c.toNat : Int)
def bytesV (l : List UInt8) : List Value := l.map byteV
@[simp] theorem bytesV_length (l : List UInt8) : (bytesV l).length = l.length := by simp [bytesV]
theorem bytesV_at {l : List UInt8} {i : Nat} (h : i < l.length) : (bytesV l)[i]? = some (.int .u8 (l[i].toNat : Int)) := by simp [bytesV, byteV, h]
@[simp] theorem bytesV_append (l k : List UInt8) : bytesV (l ++ k) = bytesV l ++ bytesV k := by simp [bytesV]
@[simp] theorem bytesV_nil : bytesV [] = [] := rfl
theorem bytesV_drop (l : List UInt8) (n : Nat) : (bytesV l).drop n = bytesV (l.drop n) := by simp [bytesV]
theorem bytesV_take (l : List UInt8) (n : Nat) : (bytesV l).take n = bytesV (l.take n) := by simp [bytesV]
theorem bytesV_ok {l : List UInt8} : ∀ u ∈ bytesV l, cellsOk u = true := by
  intro u hu
  obtain ⟨c, _, rfl⟩ := List.mem_map.1 hu
  rfl

section
variable {P : Program} {w : World}
theorem run_firstCells {sz m c : Nat} {a : Option Addr} {vs : List Value} (hl : vs.length = m * sz) (h : ∀ j, j < vs.length → ∃ b off, a = some ⟨b, off, none⟩ ∧ w.cell? ⟨b, off + j, none⟩ = vs[j]?) (n : Nat) (hn : n = m) (hne : a = none → m = 0) :
    (Builtin.firstCells sz n (.slice a m c)).run P w = .ok vs.toArray w := by
  subst hn
  cases a with
  | none =>
    have : vs = [] := List.eq_nil_of_length_eq_zero (by rw [hl, hne rfl]; simp)
    subst this
    rfl
  | some x =>
    simp only [Builtin.firstCells]
    rw [← hl]
    refine run_loadCells_list w x vs fun j v hv => ?_
    have hj : j < vs.length := by
      rcases Nat.lt_or_ge j vs.length with h | h
      · exact h
      · rw [List.getElem?_eq_none h] at hv; cases hv
    obtain ⟨b, off, h1, h2⟩ := h j hj
    cases h1
    rw [add_mul_addr, h2, hv]
end

/-! ### Rows that grow -/
theorem Holds.grow {w : World} {b : Nat} {cs : List Value} {t : TypeId} {k : Nat} (h : Holds w b (.row cs t k)) (hk : cs.length < k) (v : Value) :
    (∃ old, w.cell? ⟨b, cs.length, none⟩ = some old) ∧ Holds (w.setCell ⟨b, cs.length, none⟩ v) b (.row (cs ++ [v]) t k) := by
  obtain ⟨rest, fr, h1, h2, h3⟩ := h
  simp only [List.length_append] at h2
  cases rest with
  | nil => simp at h2; omega
  | cons r rest =>
    refine ⟨⟨r, by simp only [World.cell?, h1]; simp⟩, rest, fr, ?_, by simp at h2 ⊢; omega, h3⟩
    simp only [World.setCell, Array.getElem?_modify, h1]
    simp
section
variable {P : Program} {W0 : World}
theorem Mem.push {w : World} {L : List Seg} {b : Nat} {cs : List Value} {t : TypeId} {k : Nat} (h : Mem W0 w ([(b, .row cs t k)] :: L)) (hk : cs.length < k) {v : Value} (hv : cellsOk v = true) :
    (store ⟨b, cs.length, none⟩ v).run P w = .ok () (w.setCell ⟨b, cs.length, none⟩ v) ∧ Mem W0 (w.setCell ⟨b, cs.length, none⟩ v) ([(b, .row (cs ++ [v]) t k)] :: L) := by
  obtain ⟨h0, h1⟩ := h.get At.here
  obtain ⟨⟨old, ho⟩, h2⟩ := h1.grow hk v
  exact ⟨run_store_cell hv ho (h1.unfrozen hk), h.change At.here (h.below.setCell (by simpa using h0) v) (fun j _ hj => Below.heap_setCell w _ v j (by simpa using hj)) (.inl rfl) h2⟩
theorem Mem.pushes {L : List Seg} {b : Nat} {t : TypeId} {k : Nat} : ∀ (vs cs : List Value) (w : World) (off i : Nat), Mem W0 w ([(b, .row cs t k)] :: L) → off + i = cs.length → cs.length + vs.length ≤ k → (∀ u ∈ vs, cellsOk u = true) →
    ∃ w', (storeCells ⟨b, off, none⟩ vs i).run P w = .ok () w' ∧ Mem W0 w' ([(b, .row (cs ++ vs) t k)] :: L)
  | [], cs, w, off, i, h, _, _, _ => ⟨w, rfl, by simpa using h⟩
  | v :: vs, cs, w, off, i, h, hi, hk, hv => by
    simp only [List.length_cons] at hk
    obtain ⟨h1, h2⟩ := Mem.push (P := P) h (by omega) (hv v (by simp))
    obtain ⟨w', h3, h4⟩ := Mem.pushes vs (cs ++ [v]) _ off (i + 1) h2 (by simp; omega) (by simp; omega) (fun u hu => hv u (by simp [hu]))
    refine ⟨w', ?_, by simpa using h4⟩
    simp only [storeCells, Sem.run_bind, add_mul_addr, hi, h1, Result.andThen_ok, h3]
/-- cells of a row, written over -/
theorem Mem.overs {b : Nat} {t : TypeId} {k : Nat} {u : Nat → SObj → List Seg} (hu : ∀ o, At (u b o) b o u) : ∀ (vs cs : List Value) (w : World) (off i : Nat), Mem W0 w (u b (.row cs t k)) → off + i + vs.length ≤ cs.length → (∀ x ∈ vs, cellsOk x = true) →
    ∃ w', (storeCells ⟨b, off, none⟩ vs i).run P w = .ok () w' ∧ Mem W0 w' (u b (.row (cs.take (off + i) ++ vs ++ cs.drop (off + i + vs.length)) t k))
  | [], cs, w, off, i, h, _, _ => ⟨w, rfl, by simpa using h⟩
  | v :: vs, cs, w, off, i, h, hk, hv => by
    simp only [List.length_cons] at hk
    have hb := (h.get (hu _)).2
    have hlt : off + i < cs.length := by omega
    have hk' : off + i < k := by
      obtain ⟨rest, fr, _, h2, _⟩ := hb
      simp only [List.length_append] at h2
      omega
    have h1 := run_store_cell (P := P) (hv v (by simp)) (hb.cell (List.getElem?_eq_getElem hlt)) (hb.unfrozen hk')
    have h2 := h.set (hu _) hlt v
    obtain ⟨w', h3, h4⟩ := Mem.overs hu vs (cs.set (off + i) v) _ off (i + 1) h2 (by simp; omega) (fun x hx => hv x (by simp [hx]))
    refine ⟨w', ?_, ?_⟩
    · simp only [storeCells, Sem.run_bind, add_mul_addr, h1, Result.andThen_ok, h3]
    · have e : (cs.set (off + i) v).take (off + (i + 1)) ++ vs ++ (cs.set (off + i) v).drop (off + (i + 1) + vs.length) = cs.take (off + i) ++ (v :: vs) ++ cs.drop (off + i + (vs.length + 1)) := by
        have e1 : (cs.set (off + i) v).take (off + (i + 1)) = cs.take (off + i) ++ [v] := by
          rw [← Nat.add_assoc, List.take_set, List.take_succ_eq_append_getElem hlt, List.set_append_right _ _ (by simp; omega)]
          have : off + i - (cs.take (off + i)).length = 0 := by simp; omega
          rw [this]; rfl
        have e2 : (cs.set (off + i) v).drop (off + (i + 1) + vs.length) = cs.drop (off + i + (vs.length + 1)) := by
          rw [List.drop_set_of_lt (by omega)]
          congr 1; omega
        rw [e1, e2]; simp
      simp only [List.length_cons]; rw [← e]; exact h4
end

/-- a slice of the call's own that reads as l elements: nil, or the head of a block of its own with unknown room behind -/
def OwnS (v : Value) (l : Nat) (cs : List Value) (t : TypeId) (sz : Nat) (seg : Seg) : Prop :=
  cs.length = l * sz ∧ ((v = .slice none 0 0 ∧ l = 0 ∧ seg = []) ∨ ∃ b c k, v = .slice (some ⟨b, 0, none⟩) l c ∧ seg = [(b, .row cs t k)] ∧ c * sz ≤ k ∧ l ≤ c)
theorem OwnS.nil (t : TypeId) (sz : Nat) : OwnS (.slice none 0 0) 0 [] t sz [] := ⟨by simp, .inl ⟨rfl, rfl, rfl⟩⟩
theorem OwnS.form {v : Value} {l : Nat} {cs : List Value} {t : TypeId} {sz : Nat} {seg : Seg} (h : OwnS v l cs t sz seg) : ∃ a c, v = .slice a l c ∧ ∀ W0 L, Rd W0 (seg :: L) a cs := by
  obtain ⟨h0, h | ⟨b, c, k, rfl, rfl, _⟩⟩ := h
  · obtain ⟨rfl, rfl, rfl⟩ := h
    have : cs = [] := List.eq_nil_of_length_eq_zero (by simpa using h0)
    subst this
    exact ⟨none, 0, rfl, fun _ _ => Rd.nil⟩
  · exact ⟨some ⟨b, 0, none⟩, c, rfl, fun _ _ => Rd.row0 At.here⟩

section rules
variable {P : Program} {W0 : World} {n : Nat} {SQ : SPost} {F : Nat → Value} {D : List Deferred} {L : List Seg} {ops : Array Oper} {rest : List Oper} {o : Oper}

/-- the heap's list in another order, or less of it -/
theorem G.less {L' : List Seg} (hs : ∀ w, Mem W0 w L → Mem W0 w L') (k : G P W0 n SQ ops rest F D L') : G P W0 n SQ ops rest F D L := fun a w h1 h2 hm => k a w h1 h2 (hs w hm)
theorem C.less {L' : List Seg} {c : Code} (hs : ∀ w, Mem W0 w L → Mem W0 w L') (k : C P W0 n SQ c F D L') : C P W0 n SQ c F D L := fun a w h1 h2 hm => k a w h1 h2 (hs w hm)

theorem zeros_eq (z : Value) (m : Nat) : (Array.range (m * z.cells.size)).map (fun i => z.cells[i % z.cells.size]!) = ((List.range (m * z.cells.size)).map fun i => z.cells[i % z.cells.size]!).toArray := by
  apply Array.ext'
  simp
theorem run_makeSlice {t e : TypeId} {sz by_ : Nat} {z : Value} (hu : P.underlying t = some (.slice e)) (hi : Inf P e sz by_ z) (hz : z.cells.size = sz) (kl kc : IntKind) (l c : Int) (h : 0 ≤ l ∧ l ≤ c ∧ by_ * c ≤ 281474976710656 ∧ c ≤ 9223372036854775807) (w : World) :
    (Instr.makeSlice t (.int kl l) (.int kc c)).run P w = .ok (.slice (some ⟨w.heap.size, 0, none⟩) l.toNat c.toNat) (w.alloc (.cells ((List.range (c.toNat * sz)).map fun i => z.cells[i % sz]!).toArray e)) := by
  obtain ⟨h1, h2, h3, h4⟩ := h
  obtain ⟨i, q1, q2, q3, q4⟩ := hi
  have wl : IntKind.i64.wrap l = l := wrap_i64 (by omega)
  have wc : IntKind.i64.wrap c = c := wrap_i64 (by omega)
  have hz' : ∀ w, (zeroValue e).run P w = .ok z w := fun w => by simp [zeroValue, typeInfo, q1, q4]
  have hti : ∀ w, (typeInfo e).run P w = .ok i w := fun w => by simp [typeInfo, q1]
  have hsz : ∀ w, (sizeOf e).run P w = .ok sz w := fun w => by simp [sizeOf, hti, q2]
  have c1 : ¬ c < 0 := by omega
  have c2 : ¬ l < 0 := by omega
  have c3 : ¬ c < l := by omega
  have c4 : ¬ 281474976710656 < (by_ : Int) * c := by omega
  simp only [Instr.makeSlice, Sem.run_bind, run_underlying hu, Result.andThen_ok, asInt, asIntOf, Sem.run_pure, hti, q3, wl, wc]
  have c5 : ¬ ((by_ : Int) * c > 2 ^ 48) := by
    have : (2 : Int) ^ 48 = 281474976710656 := by decide
    omega
  have c6 : ¬ (l > c) := by omega
  simp only [c1, c5, c2, c6, decide_false, Bool.or_false, Bool.false_eq_true, if_false]
  simp only [Sem.run_bind, run_askRoom, Result.andThen_ok, hsz]
  by_cases hn : c.toNat * sz = 0
  · simp only [hn, if_true, Sem.run_bind, Sem.run_pure, Result.andThen_ok, Go.newRow, run_newObj]
    simp [show Array.range 0 = #[] from rfl]
  · simp only [hn, if_false, Sem.run_bind, hz', Sem.run_pure, Result.andThen_ok, Go.newRow, run_newObj, World.alloc_eq]
    congr 3
    rw [hz]
    apply Array.ext'
    simp
def zeroRow (z : Value) (m sz : Nat) : List Value := (List.range (m * sz)).map fun i => z.cells[i % sz]!
@[simp] theorem zeroRow_length (z : Value) (m sz : Nat) : (zeroRow z m sz).length = m * sz := by simp [zeroRow]
theorem zeroRow_one {z : Value} (hz : cellsOk z = true) (m : Nat) : zeroRow z m 1 = List.replicate m z := by
  apply List.ext_getElem?
  intro i
  simp only [zeroRow, cells_of_ok hz, Nat.mul_one, Nat.mod_one]
  by_cases h : i < m
  · simp [h, List.getElem?_replicate]
  · simp [h, List.getElem?_replicate]
theorem G.makeSlice {t e : TypeId} {x y : Operand} {kl kc : IntKind} {l c : Int} {sz by_ : Nat} {z : Value} (ho : o.op = .makeSlice t x y) (hr : runs n ops F o) {d : Nat} (hd : o.dst = some d) (hn : Nat.blt d n = true)
    (hu : P.underlying t = some (.slice e)) (hi : Inf P e sz by_ z) (hz : z.cells.size = sz) (hx : ev F x = .int kl l) (hy : ev F y = .int kc c) (h : 0 ≤ l ∧ l ≤ c ∧ by_ * c ≤ 281474976710656 ∧ c ≤ 9223372036854775807)
    (k : ∀ b, G P W0 n SQ ops rest (upd F d (.slice (some ⟨b, 0, none⟩) l.toNat c.toNat)) D ([(b, .row (zeroRow z c.toNat sz) e (c.toNat * sz))] :: L)) : G P W0 n SQ ops (o :: rest) F D L :=
  G.eff hr hd hn fun w hm => by
    have hh := Holds.newRow w (zeroRow z c.toNat sz) e
    rw [zeroRow_length] at hh
    refine ⟨_, w.alloc (.cells (zeroRow z c.toNat sz).toArray e), _, ?_, hm.alloc _ hh, k w.heap.size⟩
    simp only [execOp, ho, hx, hy, Sem.run_bind, run_makeSlice hu hi hz kl kc l c h w, Result.andThen_ok, Sem.run_pure]
    rfl
/-- a slice's literal of single cells -/
theorem G.buildSlice {t e : TypeId} {m : Nat} {parts : Array (Nat × Operand)} {sz by_ : Nat} {z : Value} {cs : List Value} (ho : o.op = .buildSlice t m parts) (hr : runs n ops F o) {d : Nat} (hd : o.dst = some d) (hn : Nat.blt d n = true)
    (hu : P.underlying t = some (.slice e)) (hi : Inf P e sz by_ z) (hm0 : Nat.ble (m * sz) 16777216 = true)
    (hf : Instr.fill (fun i => some (i * sz, sz)) ((Array.range (m * sz)).map ((if m * sz = 0 then #[] else z.cells)[· % (if m * sz = 0 then #[] else z.cells).size]!)) (parts.map (fun (i, x) => (i, ev F x))).toList = some cs.toArray)
    (k : ∀ b, G P W0 n SQ ops rest (upd F d (.slice (some ⟨b, 0, none⟩) m m)) D ([(b, .row cs e cs.length)] :: L)) : G P W0 n SQ ops (o :: rest) F D L :=
  G.eff hr hd hn fun w hm => by
    have hz : ∀ w, (zeroValue e).run P w = .ok z w := fun w => hi.run_zero
    have hs : ∀ w, (sizeOf e).run P w = .ok sz w := fun w => hi.run_size
    have hle := Nat.le_of_ble_eq_true hm0
    have hnle : ¬ (m * sz > 2 ^ 24) := by have : (2 : Nat) ^ 24 = 16777216 := by decide
                                          omega
    refine ⟨_, _, _, ?_, hm.alloc _ (Holds.newRow w cs e), k w.heap.size⟩
    simp only [execOp, ho, Instr.buildSlice, Sem.run_bind, run_underlying hu, Result.andThen_ok, hs, hnle, if_false]
    by_cases h0 : m * sz = 0
    · simp only [h0, if_true] at hf
      simp only [h0, if_true, Sem.run_pure, Sem.run_bind, Result.andThen_ok, hf, Go.newRow, run_newObj, World.alloc_eq]
    · simp only [h0, if_false] at hf
      simp only [h0, if_false, Sem.run_pure, Sem.run_bind, hz, Result.andThen_ok, hf, Go.newRow, run_newObj, World.alloc_eq]

/-! ### Cuts -/
theorem G.sliceLH {t e : TypeId} {x lo up : Operand} {a : Option Addr} {len cap : Nat} {kl kh : IntKind} {l h : Int} {sz by_ : Nat} {z : Value} (ho : o.op = .slice t x (some lo) (some up) none) (hr : runs n ops F o) {d : Nat} (hd : o.dst = some d) (hn : Nat.blt d n = true)
    (hu : P.underlying t = some (.slice e)) (hi : Inf P e sz by_ z) (hx : ev F x = .slice a len cap) (hl : ev F lo = .int kl l) (hh : ev F up = .int kh h) (hb : 0 ≤ l ∧ l ≤ h ∧ h ≤ cap)
    (k : G P W0 n SQ ops rest (upd F d (.slice (cutA a cap l.toNat sz) (h.toNat - l.toNat) (cap - l.toNat))) D L) : G P W0 n SQ ops (o :: rest) F D L :=
  G.val _ hr hd hn (fun w _ => by
    have hs : ∀ w, (sizeOf e).run P w = .ok sz w := fun w => hi.run_size
    obtain ⟨h1, h2, h3⟩ := hb
    have h4 : 0 ≤ h := by omega
    have e1 : (h.toNat : Int) = h := by omega
    simp [execOp, ho, hx, hl, hh, Instr.sliceAt, Instr.slice, Instr.sliceBounds, run_underlying hu, run_sliceBound, hs, h1, h2, h3, h4, e1, cutA]) k
theorem G.sliceH {t e : TypeId} {x up : Operand} {a : Option Addr} {len cap : Nat} {kh : IntKind} {h : Int} {sz by_ : Nat} {z : Value} (ho : o.op = .slice t x none (some up) none) (hr : runs n ops F o) {d : Nat} (hd : o.dst = some d) (hn : Nat.blt d n = true)
    (hu : P.underlying t = some (.slice e)) (hi : Inf P e sz by_ z) (hx : ev F x = .slice a len cap) (hh : ev F up = .int kh h) (hb : 0 ≤ h ∧ h ≤ cap)
    (k : G P W0 n SQ ops rest (upd F d (.slice a h.toNat cap)) D L) : G P W0 n SQ ops (o :: rest) F D L :=
  G.val _ hr hd hn (fun w _ => by
    have hs : ∀ w, (sizeOf e).run P w = .ok sz w := fun w => hi.run_size
    obtain ⟨h1, h3⟩ := hb
    have e0 : (a.map fun x => x.add 0) = a := by cases a <;> simp [Addr.add]
    simp [execOp, ho, hx, hh, Instr.sliceAt, Instr.slice, Instr.sliceBounds, run_underlying hu, run_sliceBound, hs, h1, h3, e0]) k
theorem G.sliceL {t e : TypeId} {x lo : Operand} {a : Option Addr} {len cap : Nat} {kl : IntKind} {l : Int} {sz by_ : Nat} {z : Value} (ho : o.op = .slice t x (some lo) none none) (hr : runs n ops F o) {d : Nat} (hd : o.dst = some d) (hn : Nat.blt d n = true)
    (hu : P.underlying t = some (.slice e)) (hi : Inf P e sz by_ z) (hx : ev F x = .slice a len cap) (hl : ev F lo = .int kl l) (hb : 0 ≤ l ∧ l ≤ len)
    (k : G P W0 n SQ ops rest (upd F d (.slice (cutA a cap l.toNat sz) (len - l.toNat) (cap - l.toNat))) D L) : G P W0 n SQ ops (o :: rest) F D L :=
  G.val _ hr hd hn (fun w _ => by
    have hs : ∀ w, (sizeOf e).run P w = .ok sz w := fun w => hi.run_size
    obtain ⟨h1, h2⟩ := hb
    simp [execOp, ho, hx, hl, Instr.sliceAt, Instr.slice, Instr.sliceBounds, run_underlying hu, run_sliceBound, hs, h1, h2, cutA]) k
/-- a cut of an array by its address -/
theorem G.sliceArr {t e : TypeId} {x : Operand} {b off m : Nat} {sz by_ : Nat} {z : Value} (ho : o.op = .slice t x none none none) (hr : runs n ops F o) {d : Nat} (hd : o.dst = some d) (hn : Nat.blt d n = true)
    (hu : P.underlying t = some (.array m e)) (hi : Inf P e sz by_ z) (hx : ev F x = .pointer (some ⟨b, off, none⟩)) (_h : True)
    (k : G P W0 n SQ ops rest (upd F d (.slice (some ⟨b, off, none⟩) m m)) D L) : G P W0 n SQ ops (o :: rest) F D L :=
  G.val _ hr hd hn (fun w _ => by
    have hs : ∀ w, (sizeOf e).run P w = .ok sz w := fun w => hi.run_size
    simp [execOp, ho, hx, Instr.sliceAt, Instr.sureAddr, Instr.sliceBounds, run_underlying hu, hs, Addr.add]) k
theorem G.sliceArrL {t e : TypeId} {x lo : Operand} {b off m : Nat} {kl : IntKind} {l : Int} {sz by_ : Nat} {z : Value} (ho : o.op = .slice t x (some lo) none none) (hr : runs n ops F o) {d : Nat} (hd : o.dst = some d) (hn : Nat.blt d n = true)
    (hu : P.underlying t = some (.array m e)) (hi : Inf P e sz by_ z) (hx : ev F x = .pointer (some ⟨b, off, none⟩)) (hl : ev F lo = .int kl l) (hb : 0 ≤ l ∧ l < m)
    (k : G P W0 n SQ ops rest (upd F d (.slice (some ⟨b, off + l.toNat * sz, none⟩) (m - l.toNat) (m - l.toNat))) D L) : G P W0 n SQ ops (o :: rest) F D L :=
  G.val _ hr hd hn (fun w _ => by
    have hs : ∀ w, (sizeOf e).run P w = .ok sz w := fun w => hi.run_size
    obtain ⟨h1, h2⟩ := hb
    have h3 : l ≤ (m : Int) := by omega
    have h4 : ¬ m = l.toNat := by omega
    simp [execOp, ho, hx, hl, Instr.sliceAt, Instr.sureAddr, Instr.sliceBounds, run_underlying hu, run_sliceBound, hs, h1, h3, h4, add_mul_addr]) k
theorem G.sliceArrLH {t e : TypeId} {x lo up : Operand} {b off m : Nat} {kl kh : IntKind} {l h : Int} {sz by_ : Nat} {z : Value} (ho : o.op = .slice t x (some lo) (some up) none) (hr : runs n ops F o) {d : Nat} (hd : o.dst = some d) (hn : Nat.blt d n = true)
    (hu : P.underlying t = some (.array m e)) (hi : Inf P e sz by_ z) (hx : ev F x = .pointer (some ⟨b, off, none⟩)) (hl : ev F lo = .int kl l) (hh : ev F up = .int kh h) (hb : 0 ≤ l ∧ l ≤ h ∧ h ≤ m ∧ l < m)
    (k : G P W0 n SQ ops rest (upd F d (.slice (some ⟨b, off + l.toNat * sz, none⟩) (h.toNat - l.toNat) (m - l.toNat))) D L) : G P W0 n SQ ops (o :: rest) F D L :=
  G.val _ hr hd hn (fun w _ => by
    have hs : ∀ w, (sizeOf e).run P w = .ok sz w := fun w => hi.run_size
    obtain ⟨h1, h2, h3, h4⟩ := hb
    have h5 : 0 ≤ h := by omega
    have e1 : (h.toNat : Int) = h := by omega
    have h6 : ¬ m = l.toNat := by omega
    simp [execOp, ho, hx, hl, hh, Instr.sliceAt, Instr.sureAddr, Instr.sliceBounds, run_underlying hu, run_sliceBound, hs, h1, h2, h3, h5, e1, h6, add_mul_addr]) k
theorem G.sliceArrH {t e : TypeId} {x up : Operand} {b off m : Nat} {kh : IntKind} {h : Int} {sz by_ : Nat} {z : Value} (ho : o.op = .slice t x none (some up) none) (hr : runs n ops F o) {d : Nat} (hd : o.dst = some d) (hn : Nat.blt d n = true)
    (hu : P.underlying t = some (.array m e)) (hi : Inf P e sz by_ z) (hx : ev F x = .pointer (some ⟨b, off, none⟩)) (hh : ev F up = .int kh h) (hb : 0 ≤ h ∧ h ≤ m)
    (k : G P W0 n SQ ops rest (upd F d (.slice (some ⟨b, off, none⟩) h.toNat m)) D L) : G P W0 n SQ ops (o :: rest) F D L :=
  G.val _ hr hd hn (fun w _ => by
    have hs : ∀ w, (sizeOf e).run P w = .ok sz w := fun w => hi.run_size
    obtain ⟨h1, h3⟩ := hb
    simp [execOp, ho, hx, hh, Instr.sliceAt, Instr.sureAddr, Instr.sliceBounds, run_underlying hu, run_sliceBound, hs, h1, h3, Addr.add]) k

/-! ### append, copy -/
theorem run_append_in {t ty e t2 e2 : TypeId} {sz by_ : Nat} {z : Value} (hu : P.underlying t = some (.slice e)) (hu2 : P.underlying t2 = some (.slice e2)) (hi : Inf P e sz by_ z) {W0 w : World} {b l c m k : Nat} {x : Value} {cs vs : List Value}
    (hm : Mem W0 w ([(b, .row cs e k)] :: L)) (hcs : cs.length = l * sz) (hk : c * sz ≤ k) (hc : l + m ≤ c) (hvs : vs.length = m * sz) (hv : ∀ u ∈ vs, cellsOk u = true)
    (hlen : (Builtin.lenOf x).run P w = .ok m w) (hfc : (Builtin.firstCells sz m x).run P w = .ok vs.toArray w) :
    ∃ w', (Builtin.append_ #[t, t2] ty #[.slice (some ⟨b, 0, none⟩) l c, x]).run P w = .ok (.slice (some ⟨b, 0, none⟩) (l + m) c) w' ∧ Mem W0 w' ([(b, .row (cs ++ vs) e k)] :: L) := by
  have hs : ∀ w, (sizeOf e).run P w = .ok sz w := fun w => hi.run_size
  have hle : (l + m) * sz ≤ k := Nat.le_trans (Nat.mul_le_mul_right _ hc) hk
  obtain ⟨w', h1, h2⟩ := Mem.pushes (P := P) vs cs w (l * sz) 0 hm (by rw [hcs]; rfl) (by rw [hcs, hvs, ← Nat.add_mul]; exact hle) hv
  refine ⟨w', ?_, h2⟩
  simp [Builtin.append_, run_underlying hu, run_underlying hu2, hs, hlen, hfc, hc, add_mul_addr, h1]
theorem run_append_new {t ty e t2 e2 : TypeId} {sz by_ : Nat} {z : Value} (hu : P.underlying t = some (.slice e)) (hu2 : P.underlying t2 = some (.slice e2)) (hi : Inf P e sz by_ z) (hz : z.cells.size = sz) (hby : 0 < by_) {w : World} {a : Option Addr} {l c m : Nat} {x : Value} {cs vs : List Value}
    (hc : c < l + m) (hb : (l + m) * by_ ≤ 140737488355328) (hlen : (Builtin.lenOf x).run P w = .ok m w) (hfc : (Builtin.firstCells sz m x).run P w.drew = .ok vs.toArray w.drew)
    (hold : (Builtin.firstCells sz l (.slice a l c)).run P w.drew = .ok cs.toArray w.drew) :
    ∃ c', l + m ≤ c' ∧ (Builtin.append_ #[t, t2] ty #[.slice a l c, x]).run P w = .ok (.slice (some ⟨w.heap.size, 0, none⟩) (l + m) c') (w.drew.alloc (.cells (cs ++ vs ++ (Builtin.zeroCells z.cells (c' - (l + m))).toList).toArray e)) := by
  obtain ⟨i, q1, q2, q3, q4⟩ := hi
  have hs : ∀ w, (sizeOf e).run P w = .ok sz w := fun w => by simp [sizeOf, typeInfo, q1, q2]
  have hti : ∀ w, (typeInfo e).run P w = .ok i w := fun w => by simp [typeInfo, q1]
  have hz' : ∀ w, (zeroValue e).run P w = .ok z w := fun w => by simp [zeroValue, typeInfo, q1, q4]
  have hfit := growslice_fits hc hb
  refine ⟨grownCap w (l + m) c e, grownCap_ge w _ _ e, ?_⟩
  have h1 : ¬ l + m ≤ c := by omega
  have h2 : ¬ (2 ^ 48 < Builtin.nextslicecap (l + m) c * by_) := by
    have : (2 : Nat) ^ 48 = 281474976710656 := by decide
    omega
  have h3 : ¬ by_ = 0 := by omega
  simp [Builtin.append_, run_underlying hu, run_underlying hu2, hs, hti, hz', hlen, h1, q3, h2, h3, run_choose, Question.forced, run_askRoom, hold, hfc, Go.newRow, run_newObj, World.alloc_eq]
  refine ⟨rfl, ?_⟩
  congr 2
  apply Array.ext'
  simp [grownCap]
theorem Holds.spare (w : World) (cs rest : List Value) (t : TypeId) : Holds (w.alloc (.cells (cs ++ rest).toArray t)) w.heap.size (.row cs t (cs ++ rest).length) :=
  ⟨rest, (0, 0), by show (w.heap.push _)[w.heap.size]? = _; simp, rfl, .inl rfl⟩
theorem G.append {s x : Operand} {t t2 e e2 : TypeId} {a : Option Addr} {l m c sz by_ : Nat} {z v : Value} {cs vs : List Value} {seg : Seg} (hown : OwnS v l cs e sz seg)
    (ho : o.op = .call { callee := .builtin .append, args := #[s, x], argTypes := #[t, t2] }) (hr : runs n ops F o) {d : Nat} (hd : o.dst = some d) (hn : Nat.blt d n = true)
    (hu : P.underlying t = some (.slice e)) (hu2 : P.underlying t2 = some (.slice e2)) (hi : Inf P e sz by_ z) (hz : z.cells.size = sz) (hby : 0 < by_)
    (hs : ev F s = v) (hx : ev F x = .slice a m c) (hsz0 : 0 < sz) (hrd : Rd W0 (seg :: L) a vs) (hvs : vs.length = m * sz) (hv : ∀ u ∈ vs, cellsOk u = true) (hb : (l + m) * by_ ≤ 140737488355328)
    (k : ∀ v' seg', OwnS v' (l + m) (cs ++ vs) e sz seg' → G P W0 n SQ ops rest (upd F d v') D (seg' :: L)) : G P W0 n SQ ops (o :: rest) F D (seg :: L) :=
  G.eff hr hd hn fun w hm => by
    have hne := hrd.ne hvs hsz0
    obtain ⟨h0, h | ⟨b, c0, kk, rfl, rfl, h2, h3⟩⟩ := hown
    · obtain ⟨rfl, rfl, rfl⟩ := h
      have hcs : cs = [] := List.eq_nil_of_length_eq_zero (by simpa using h0)
      subst hcs
      by_cases hm0 : m = 0
      · subst hm0
        have hvs0 : vs = [] := List.eq_nil_of_length_eq_zero (by simpa using hvs)
        subst hvs0
        refine ⟨.slice none 0 0, w, _, ?_, hm, k _ [] ⟨by simp, .inl ⟨rfl, rfl, rfl⟩⟩⟩
        have hsz : ∀ w, (sizeOf e).run P w = .ok sz w := fun w => hi.run_size
        have hf := run_firstCells (P := P) (w := w) (c := c) hvs (hrd.cells w hm) 0 rfl hne
        simp [execOp, ho, resolve, invoke, builtin, hs, hx, Builtin.append_, run_underlying hu, run_underlying hu2, hsz, Builtin.lenOf, hf]
      · obtain ⟨c', hc', hrun⟩ := run_append_new (P := P) (ty := o.type) hu hu2 hi hz hby (w := w) (a := none) (l := 0) (c := 0) (m := m) (x := .slice a m c) (cs := []) (vs := vs) (by omega) hb rfl
          (run_firstCells hvs (hrd.cells w.drew hm.drew) m rfl hne) rfl
        simp only [List.nil_append, Nat.zero_add] at hrun
        refine ⟨_, _, _, ?_, hm.tail.drew.alloc _ (Holds.spare w.drew vs (Builtin.zeroCells z.cells (c' - m)).toList e), k _ _ ⟨by simpa using hvs, .inr ⟨_, c', _, rfl, rfl, ?_, by omega⟩⟩⟩
        · simp only [execOp, ho, resolve, invoke, builtin, Sem.run_bind, Sem.run_pure, Result.andThen_ok, List.map_toArray, List.map_cons, List.map_nil, hs, hx, hrun, Nat.zero_add]
          rfl
        · simp only [List.nil_append, List.length_append, hvs, Array.length_toList]
          have : (Builtin.zeroCells z.cells (c' - m)).size = (c' - m) * sz := by simp [Builtin.zeroCells, hz]
          rw [this, ← Nat.add_mul]
          exact Nat.mul_le_mul_right _ (by omega)
    · by_cases hcap : l + m ≤ c0
      · obtain ⟨w', h4, h5⟩ := run_append_in (P := P) (ty := o.type) hu hu2 hi hm h0 h2 hcap hvs hv (x := .slice a m c) rfl (run_firstCells hvs (hrd.cells w hm) m rfl hne)
        refine ⟨_, w', _, ?_, h5, k _ _ ⟨by simp [h0, hvs, Nat.add_mul], .inr ⟨b, c0, kk, rfl, rfl, h2, hcap⟩⟩⟩
        simp only [execOp, ho, resolve, invoke, builtin, Sem.run_bind, Sem.run_pure, Result.andThen_ok, List.map_toArray, List.map_cons, List.map_nil, hs, hx, h4]
      · obtain ⟨c', hc', hrun⟩ := run_append_new (P := P) (ty := o.type) hu hu2 hi hz hby (w := w) (a := some ⟨b, 0, none⟩) (l := l) (c := c0) (m := m) (x := .slice a m c) (cs := cs) (vs := vs) (by omega) hb rfl
          (run_firstCells hvs (hrd.cells w.drew hm.drew) m rfl hne) (run_firstCells h0 ((Rd.row0 At.here).cells w.drew hm.drew) l rfl (fun h => by cases h))
        have hm' := (hm.tail.drew).alloc _ (Holds.spare w.drew (cs ++ vs) (Builtin.zeroCells z.cells (c' - (l + m))).toList e)
        refine ⟨_, _, _, ?_, hm', k _ _ ⟨by simp [h0, hvs, Nat.add_mul], .inr ⟨_, c', _, rfl, rfl, ?_, hc'⟩⟩⟩
        · simp only [execOp, ho, resolve, invoke, builtin, Sem.run_bind, Sem.run_pure, Result.andThen_ok, List.map_toArray, List.map_cons, List.map_nil, hs, hx, hrun]
          rfl
        · simp only [List.length_append, hvs, h0, Array.length_toList]
          have : (Builtin.zeroCells z.cells (c' - (l + m))).size = (c' - (l + m)) * sz := by simp [Builtin.zeroCells, hz]
          rw [this, ← Nat.add_mul, ← Nat.add_mul]
          exact Nat.mul_le_mul_right _ (by omega)
end rules
end Go.SL
