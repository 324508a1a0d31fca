/-
  Maps whose keys are integers: made, read, written. No program in sight.
-/
import Derived.Test.YtoegcjgdaikfiaaSL9
import Derived.MapKept
namespace Go.SL
open Go Go.RowKit

/-- what a map has, in the order in which it came: key, value, stamp -/
abbrev Ent := List (Int × Value × Nat)
def entV (kd : IntKind) (e : Int × Value × Nat) : MapEntry := { key := .int kd e.1, val := e.2.1, born := e.2.2 }
abbrev mapO (kd : IntKind) (es : Ent) (ck : Nat) : SObj := .obj (.map (es.map (entV kd)).toArray ck)
def mfind (k : Int) : Ent → Nat → Option (Nat × Value)
  | [], _ => none
  | e :: es, i => if k = e.1 then some (i, e.2.1) else mfind k es (i + 1)
def mget (es : Ent) (k : Int) : Option Value := (mfind k es 0).map (·.2)
def mput (es : Ent) (ck : Nat) (k : Int) (v : Value) : Ent × Nat :=
  match mfind k es 0 with
  | some (i, _) => (es.modify i (fun e => (k, v, e.2.2)), ck)
  | none => (es ++ [(k, v, ck)], ck + 1)
theorem findNow_eq (kd : IntKind) (k : Int) : ∀ (es : Ent) (i : Nat), Instr.findNow (.int kd) (.int kd k) (es.map (entV kd)) i = some (mfind k es i)
  | [], i => rfl
  | e :: es, i => by
    simp only [List.map_cons, Instr.findNow, entV, Instr.sameNow, if_true, mfind]
    by_cases h : k = e.1
    · rw [if_pos h, show (k == e.1) = true from beq_iff_eq.2 h]
    · rw [if_neg h, show (k == e.1) = false from beq_eq_false_iff_ne.2 h]
      exact findNow_eq kd k es (i + 1)
theorem mfind_some {k : Int} : ∀ {es : Ent} {i j : Nat} {v : Value}, mfind k es i = some (j, v) → ∃ q, j = i + q ∧ ∃ e, es[q]? = some e ∧ e.1 = k ∧ e.2.1 = v
  | [], i, j, v, h => by cases h
  | e :: es, i, j, v, h => by
    simp only [mfind] at h
    split at h
    · rename_i hk
      cases h
      exact ⟨0, rfl, e, rfl, hk.symm, rfl⟩
    · obtain ⟨q, hq, e', h1, h2⟩ := mfind_some h
      exact ⟨q + 1, by omega, e', by simpa using h1, h2⟩
theorem mfind_shift (k : Int) : ∀ (es : Ent) (i : Nat), (mfind k es i).map (·.2) = (mfind k es 0).map (·.2)
  | [], i => rfl
  | e :: es, i => by
    simp only [mfind]
    split
    · rfl
    · rw [mfind_shift k es (i + 1), mfind_shift k es (0 + 1)]
theorem mget_cons (e : Int × Value × Nat) (es : Ent) (k : Int) : mget (e :: es) k = if k = e.1 then some e.2.1 else mget es k := by
  unfold mget
  simp only [mfind]
  split
  · rfl
  · exact mfind_shift k es (0 + 1)
theorem mget_nil (k : Int) : mget [] k = none := rfl
theorem mget_append (k : Int) : ∀ (es fs : Ent), mget (es ++ fs) k = (mget es k).or (mget fs k)
  | [], fs => by simp [mget_nil]
  | e :: es, fs => by
    rw [List.cons_append, mget_cons, mget_cons, mget_append k es fs]
    split <;> rfl
theorem mget_modify (k k' : Int) (v : Value) : ∀ (es : Ent) (i q : Nat) (w : Value), mfind k es i = some (i + q, w) → mget (es.modify q (fun e => (k, v, e.2.2))) k' = if k' = k then some v else mget es k'
  | [], i, q, w, h => by cases h
  | e :: es, i, q, w, h => by
    simp only [mfind] at h
    split at h
    · rename_i hk
      have hq : q = 0 := by
        simp only [Option.some.injEq, Prod.mk.injEq] at h
        omega
      subst hq
      rw [List.modify_cons, if_pos rfl, mget_cons, mget_cons, ← hk]
      simp only
      split <;> rfl
    · rename_i hk
      obtain ⟨q', hq', _⟩ := mfind_some h
      obtain rfl : q = q' + 1 := by omega
      rw [List.modify_succ_cons, mget_cons, mget_cons, mget_modify k k' v es (i + 1) q' w (by rw [h]; congr 2)]
      by_cases h2 : k' = e.1
      · rw [if_pos h2, if_pos h2, if_neg (fun h3 => hk (h3.symm.trans h2))]
      · rw [if_neg h2, if_neg h2]
/-- a map that was written to, read -/
theorem mget_mput (es : Ent) (ck : Nat) (k k' : Int) (v : Value) : mget (mput es ck k v).1 k' = if k' = k then some v else mget es k' := by
  unfold mput
  cases h : mfind k es 0 with
  | none =>
    simp only
    rw [mget_append, mget_cons, mget_nil]
    simp only
    by_cases h2 : k' = k
    · subst h2
      rw [if_pos rfl, if_pos rfl]
      unfold mget
      rw [h]
      rfl
    · rw [if_neg h2, if_neg h2]
      cases mget es k' <;> rfl
  | some p =>
    obtain ⟨i, w⟩ := p
    simp only
    exact mget_modify k k' v es 0 i w (by rw [h, Nat.zero_add])
section rules
variable {P : Program} {W0 : World} {n : Nat} {SQ : SPost} {F : Nat → Value} {D : List Deferred} {L : List Seg} {ops : Array Oper} {rest : List Oper} {o : Oper}
theorem Mem.obj {w : World} {b : Nat} {x y : Obj} {u : Nat → SObj → List Seg} (h : Mem W0 w L) (ha : At L b (.obj x) u) : w.heap[b]? = some x ∧ Mem W0 { w with heap := w.heap.setIfInBounds b y } (u b (.obj y)) := by
  obtain ⟨h0, h1⟩ := h.get ha
  have hb : w.heap[b]? = some x := h1
  obtain ⟨g1, g2⟩ := MapKept.heap_set (o' := y) hb
  refine ⟨hb, h.change ha ?_ (fun i _ hi => g2 i hi) (.inl rfl) g1⟩
  exact ⟨h.below.os, h.below.tape, h.below.output, by simpa using h.below.size, fun k hk => (g2 k (by omega)).trans (h.below.block k hk)⟩
theorem G.makeMap {t : TypeId} {kd : IntKind} (ho : o.op = .makeMap t none) (hr : runs n ops F o) {d : Nat} (hd : o.dst = some d) (hn : Nat.blt d n = true)
    (k : ∀ b, G P W0 n SQ ops rest (upd F d (.map (some b))) D ([(b, mapO kd [] 0)] :: L)) : G P W0 n SQ ops (o :: rest) F D L :=
  G.eff hr hd hn fun w hm => by
    refine ⟨_, w.alloc (.map #[] 0), _, ?_, hm.alloc _ (o := mapO kd [] 0) ?_, k w.heap.size⟩
    · simp [execOp, ho, Go.Instr.makeMap, newObj, Sem.run]
    · show (w.heap.push _)[w.heap.size]? = _
      simp
theorem run_lookup_int {t kt et : TypeId} {kd : IntKind} {sz by_ : Nat} {z : Value} {b ck : Nat} {es : Ent} {k0 : Int} {w : World} (hu : P.underlying t = some (.map kt et)) (hk : P.underlying kt = some (.int kd)) (hi : Inf P et sz by_ z) (hb : w.heap[b]? = some (.map (es.map (entV kd)).toArray ck)) (ok : Bool) :
    (Instr.lookup t (.map (some b)) (.int kd k0) ok).run P w = .ok (if ok then .tuple #[(mget es k0).getD z, .bool (mget es k0).isSome] else (mget es k0).getD z) w := by
  have h1 : ∀ e w, (Instr.checkKey e 10000 kt (.int kd k0)).run P w = .ok () w := fun e w => MapKept.run_checkKey (d := .int kd) (k := .int kd k0) hk (by simp [MapKept.IsKey]) e 9999
  have h2 : ∀ w, (Instr.findKey kt (.int kd k0) (es.map (entV kd))).run P w = .ok (mfind k0 es 0) w := fun w => MapKept.run_findKey hk (findNow_eq kd k0 es 0)
  have h3 : ∀ w, (zeroValue et).run P w = .ok z w := fun w => hi.run_zero
  have h4 := MapKept.run_getObj_map (P := P) hb
  unfold Instr.lookup mget
  simp only [Sem.run_bind, run_underlying hu, Result.andThen, h4, h1, h2]
  cases h : mfind k0 es 0 with
  | none => cases ok <;> simp [h2, h3, h]
  | some p => cases ok <;> simp [h2, h]
theorem G.lookupOk {t kt et : TypeId} {kd : IntKind} {x y : Operand} {sz by_ : Nat} {z : Value} {b ck : Nat} {es : Ent} {k0 : Int} {u : Nat → SObj → List Seg} (ha : At L b (mapO kd es ck) u) (ho : o.op = .lookup t x y true) (hr : runs n ops F o) {d : Nat} (hd : o.dst = some d) (hn : Nat.blt d n = true)
    (hu : P.underlying t = some (.map kt et)) (hk : P.underlying kt = some (.int kd)) (hi : Inf P et sz by_ z) (hx : ev F x = .map (some b)) (hy : ev F y = .int kd k0)
    (k : G P W0 n SQ ops rest (upd F d (.tuple #[(mget es k0).getD z, .bool (mget es k0).isSome])) D L) : G P W0 n SQ ops (o :: rest) F D L :=
  G.val _ hr hd hn (fun w hm => by
    have := run_lookup_int (k0 := k0) hu hk hi (hm.get ha).2 true
    simp [execOp, ho, hx, hy, this]) k
theorem G.lookupV {t kt et : TypeId} {kd : IntKind} {x y : Operand} {sz by_ : Nat} {z : Value} {b ck : Nat} {es : Ent} {k0 : Int} {u : Nat → SObj → List Seg} (ha : At L b (mapO kd es ck) u) (ho : o.op = .lookup t x y false) (hr : runs n ops F o) {d : Nat} (hd : o.dst = some d) (hn : Nat.blt d n = true)
    (hu : P.underlying t = some (.map kt et)) (hk : P.underlying kt = some (.int kd)) (hi : Inf P et sz by_ z) (hx : ev F x = .map (some b)) (hy : ev F y = .int kd k0)
    (k : G P W0 n SQ ops rest (upd F d ((mget es k0).getD z)) D L) : G P W0 n SQ ops (o :: rest) F D L :=
  G.val _ hr hd hn (fun w hm => by
    have := run_lookup_int (k0 := k0) hu hk hi (hm.get ha).2 false
    simp [execOp, ho, hx, hy, this]) k
theorem sameBits_int (n : Nat) (kd : IntKind) (a : Int) : Instr.sameBits n (.int kd a) (.int kd a) = true := by
  cases n <;> simp [Instr.sameBits]
theorem run_mapUpdate_int {t kt et : TypeId} {kd : IntKind} {b ck : Nat} {es : Ent} {k0 : Int} {v : Value} {w : World} (hu : P.underlying t = some (.map kt et)) (hk : P.underlying kt = some (.int kd)) (hb : w.heap[b]? = some (.map (es.map (entV kd)).toArray ck)) :
    (Instr.mapUpdate t (.map (some b)) (.int kd k0) v).run P w = .ok () { w with heap := w.heap.setIfInBounds b (.map ((mput es ck k0 v).1.map (entV kd)).toArray (mput es ck k0 v).2) } := by
  have h1 : ∀ e w, (Instr.checkKey e 10000 kt (.int kd k0)).run P w = .ok () w := fun e w => MapKept.run_checkKey (d := .int kd) (k := .int kd k0) hk (by simp [MapKept.IsKey]) e 9999
  have h2 : ∀ w, (Instr.findKey kt (.int kd k0) (es.map (entV kd))).run P w = .ok (mfind k0 es 0) w := fun w => MapKept.run_findKey hk (findNow_eq kd k0 es 0)
  have h4 := MapKept.run_getObj_map (P := P) hb
  unfold Instr.mapUpdate mput
  simp only [Sem.run_bind, run_underlying hu, Result.andThen, h4, h1, h2]
  cases h : mfind k0 es 0 with
  | none =>
    simp only
    rw [MapKept.run_setObj_map _ hb]
    simp [entV]
  | some p =>
    obtain ⟨i, x⟩ := p
    obtain ⟨q, hq, e, he, hek, hev⟩ := mfind_some h
    obtain rfl : i = q := by omega
    have hkey : (((es.map (entV kd)).toArray[i]?).map (·.key)).getD (.int kd k0) = .int kd k0 := by
      simp [he, entV, hek]
    simp only [hkey, Instr.keyThatStays, sameBits_int, if_true, Sem.run_bind, Sem.run_pure, Result.andThen]
    rw [MapKept.run_setObj_map _ hb]
    congr 3
    rw [List.modify_toArray]
    congr 2
    apply List.ext_getElem?
    intro j
    simp only [List.getElem?_modify, List.getElem?_map]
    by_cases hj : i = j
    · subst hj
      simp [he, entV]
    · simp [hj]
theorem G.mapUpdate {t kt et : TypeId} {kd : IntKind} {x y z : Operand} {b ck : Nat} {es : Ent} {k0 : Int} {v : Value} {u : Nat → SObj → List Seg} (ha : At L b (mapO kd es ck) u) (ho : o.op = .mapUpdate t x y z) (hr : runs n ops F o) (hd : o.dst = none)
    (hu : P.underlying t = some (.map kt et)) (hk : P.underlying kt = some (.int kd)) (hx : ev F x = .map (some b)) (hy : ev F y = .int kd k0) (hz : ev F z = v)
    (k : G P W0 n SQ ops rest F D (u b (mapO kd (mput es ck k0 v).1 (mput es ck k0 v).2))) : G P W0 n SQ ops (o :: rest) F D L :=
  G.effSkip hr hd fun w hm => by
    have h1 := hm.obj ha (y := .map ((mput es ck k0 v).1.map (entV kd)).toArray (mput es ck k0 v).2)
    have h2 := run_mapUpdate_int (P := P) (k0 := k0) (v := v) hu hk h1.1
    exact ⟨_, _, by simp [execOp, ho, hx, hy, hz, h2], h1.2, k⟩
/-! ### A method of a pointer, called over an interface -/
def MethP (P : Program) (t : TypeId) (name : String) (f : FuncId) : Prop := ∃ i m e, P.info? t = some i ∧ i.methods.find? (·.name == name) = some m ∧ m.path.toList = [] ∧ m.func = some (f, true) ∧ P.underlying t = some (.pointer e)
theorem MethP.of {t e : TypeId} {name : String} {f : FuncId} (h : (P.info? t).bind (fun i => (i.methods.find? (·.name == name)).map (fun m => (m.path.toList.length, m.func))) = some (0, some (f, true))) (hu : P.underlying t = some (.pointer e)) : MethP P t name f := by
  cases hi : P.info? t with
  | none => rw [hi] at h; cases h
  | some i =>
    rw [hi] at h
    simp only [Option.bind_some] at h
    cases hm : i.methods.find? (·.name == name) with
    | none => rw [hm] at h; cases h
    | some m =>
      rw [hm] at h
      simp only [Option.map_some, Option.some.injEq, Prod.mk.injEq] at h
      exact ⟨i, m, e, hi, hm, List.eq_nil_of_length_eq_zero h.1, h.2, hu⟩
theorem MethP.run {t : TypeId} {name : String} {f : FuncId} (h : MethP P t name f) (k : Nat) (v : Value) (w : World) : (method (k + 1) t v name).run P w = .ok (f, v) w := by
  obtain ⟨i, m, e, h1, h2, h3, h4, h5⟩ := h
  unfold method
  have ht : (typeInfo t).run P w = .ok i w := by
    have hinf := h1
    simp [typeInfo, Sem.run_bind, run_program, Result.andThen_ok, h1]
  simp only [Sem.run_bind, ht, Result.andThen_ok, h2, h3, follow, Sem.run_pure, h4, receiverAt, run_underlying h5, Place.get]
theorem G.invokeP {c : Call} {x : Operand} {name : String} {t : TypeId} {f : FuncId} {v : Value} (he : Enters P f) (hm : MethP P t name f) (ho : o.op = .call c) (hc : c.callee = .invoke x name) (hx : ev F x = .iface t v) (hr : runs n ops F o) {d : Nat} (hd : o.dst = some d) (hn : Nat.blt d n = true)
    {args : List Value} {R : Ending → List Seg → Prop} (hf : FnS P W0 f args.toArray L R) (hargs : v :: c.args.toList.map (ev F) = args)
    (k : ∀ e L', R e L' → match e with
      | .returned v => G P W0 n SQ ops rest (upd F d v) D L'
      | .panicked chain => SQ (.panic chain) F D L'
      | .outgrown => False) : G P W0 n SQ ops (o :: rest) F D L :=
  G.enter hr hd hn (fun w _ => by
    have hpos : 0 < Made.depth := by decide
    obtain ⟨q, hq⟩ : ∃ q, P.types.size + Made.depth = q + 1 := ⟨P.types.size + Made.depth - 1, by omega⟩
    have hargs' : #[v] ++ c.args.map (ev F) = args.toArray := by rw [← hargs]; apply Array.ext'; simp
    have he' := he args.toArray w
    rw [← hargs'] at he'
    simp only [execOp, ho, resolve, hc, hx, Sem.run_bind, Sem.run_pure, Result.andThen_ok, invoke]
    have e0 : (#[Value.iface t v] ++ c.args.map (ev F))[0]? = some (.iface t v) := by rw [Array.getElem?_append_left (by simp)]; rfl
    have e1 : (#[Value.iface t v] ++ c.args.map (ev F)).extract 1 (#[Value.iface t v] ++ c.args.map (ev F)).size = c.args.map (ev F) := by
      apply Array.ext'
      simp only [Array.toList_extract, Array.toList_append, Array.toList_map, Array.size_append, Array.size_map, List.size_toArray, List.length_cons, List.length_nil, List.extract_eq_take_drop]
      simp
      exact List.take_of_length_le (by simp)
    simp only [e0, e1, callMethod, Sem.run_bind, run_program, Result.andThen_ok, hq, hm.run]
    rw [he', hargs']) hf k
end rules
end Go.SL
