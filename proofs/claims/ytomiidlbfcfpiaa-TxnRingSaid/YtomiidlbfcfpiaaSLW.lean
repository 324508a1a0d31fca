/-
  Maps whose keys are integers: ranged over, struck from. No program in sight.
-/
import Derived.Test.YtomiidlbfcfpiaaSLM
import Derived.Test.YtomiidlbfcfpiaaSLS
import Derived.Maps.RangeRun
namespace Go.SL
open Go Go.RowKit

theorem mfind_none {k : Int} : ∀ {es : Ent} {i : Nat}, (∀ e ∈ es, e.1 ≠ k) → mfind k es i = none
  | [], _, _ => rfl
  | e :: es, i, h => by
    simp only [mfind]
    rw [if_neg (fun he => h e (by simp) he.symm)]
    exact mfind_none fun x hx => h x (by simp [hx])
/-- where it stands, if it stands there -/
theorem mfind_split {k : Int} : ∀ {es : Ent} (_ : (es.map (·.1)).Nodup) (i : Nat), match mfind k es i with
    | some (j, v) => ∃ q, j = i + q ∧ q < es.length ∧ es.eraseIdx q = es.filter (fun e => !decide (e.1 = k)) ∧ ∃ e ∈ es, e.1 = k ∧ e.2.1 = v
    | none => es.filter (fun e => !decide (e.1 = k)) = es ∧ ∀ e ∈ es, e.1 ≠ k
  | [], _, i => by simp [mfind]
  | e :: es, hn, i => by
    have hn' : e.1 ∉ es.map (·.1) ∧ (es.map (·.1)).Nodup := List.nodup_cons.1 hn
    by_cases h : k = e.1
    · have hf : mfind k (e :: es) i = some (i, e.2.1) := by simp [mfind, h]
      rw [hf]
      refine ⟨0, by simp, by simp, ?_, e, by simp, h.symm, rfl⟩
      rw [List.eraseIdx_cons_zero, List.filter_cons_of_neg (by simp [h]), List.filter_eq_self.2]
      intro x hx
      simp only [Bool.not_eq_true', decide_eq_false_iff_not]
      intro hxe
      exact hn'.1 (List.mem_map.2 ⟨x, hx, by rw [hxe, h]⟩)
    · have hf : mfind k (e :: es) i = mfind k es (i + 1) := by simp [mfind, h]
      have ih := mfind_split (k := k) hn'.2 (i + 1)
      rw [hf]
      cases hm : mfind k es (i + 1) with
      | none =>
        rw [hm] at ih
        refine ⟨by rw [List.filter_cons_of_pos (by simpa using fun he => h he.symm), ih.1], ?_⟩
        intro x hx
        rcases List.mem_cons.1 hx with rfl | hx
        · exact fun he => h he.symm
        · exact ih.2 x hx
      | some p =>
        obtain ⟨j, v⟩ := p
        rw [hm] at ih
        obtain ⟨q, h1, h2, h3, x, hx, h4, h5⟩ := ih
        refine ⟨q + 1, by omega, by simpa using h2, ?_, x, by simp [hx], h4, h5⟩
        rw [List.eraseIdx_cons_succ, h3, List.filter_cons_of_pos (by simpa using fun he => h he.symm)]
theorem mget_mem {es : Ent} (hn : (es.map (·.1)).Nodup) {e : Int × Value × Nat} (he : e ∈ es) : mget es e.1 = some e.2.1 := by
  induction es with
  | nil => cases he
  | cons x xs ih =>
    have hn' : x.1 ∉ xs.map (·.1) ∧ (xs.map (·.1)).Nodup := List.nodup_cons.1 hn
    rw [mget_cons]
    rcases List.mem_cons.1 he with rfl | he
    · simp
    · rw [if_neg (fun h => hn'.1 (by rw [← h]; exact List.mem_map_of_mem he)), ih hn'.2 he]
theorem mget_not {es : Ent} {k : Int} (h : ∀ e ∈ es, e.1 ≠ k) : mget es k = none := by
  unfold mget
  rw [mfind_none h]
  rfl
section rules
variable {P : Program} {W0 : World} {n : Nat} {SQ : SPost} {F : Nat → Value} {D : List Deferred} {L : List Seg} {ops : Array Oper} {rest : List Oper} {o : Oper}
theorem G.range {t kt et : TypeId} {kd : IntKind} {x : Operand} {b ck : Nat} {es : Ent} {u : Nat → SObj → List Seg} (ha : At L b (mapO kd es ck) u) (ho : o.op = .range t x) (hr : runs n ops F o) {d : Nat} (hd : o.dst = some d) (hn : Nat.blt d n = true)
    (hu : P.underlying t = some (.map kt et)) (hx : ev F x = .map (some b))
    (k : ∀ bi, G P W0 n SQ ops rest (upd F d (.pointer (some ⟨bi, 0, none⟩))) D ([(bi, .obj (.mapIter (some b) ck #[] ck))] :: L)) : G P W0 n SQ ops (o :: rest) F D L :=
  G.eff hr hd hn fun w hm => by
    refine ⟨_, w.alloc (.mapIter (some b) ck #[] ck), _, ?_, hm.alloc _ (o := .obj (.mapIter (some b) ck #[] ck)) ?_, k w.heap.size⟩
    · have h1 := run_range_map (P := P) w t kt et b _ ck hu (hm.get ha).2
      simp [execOp, ho, hx, h1]
    · show (w.heap.push _)[w.heap.size]? = _
      simp
theorem left_iff {kd : IntKind} {es : Ent} {seen : Array Nat} : (leftOf (es.map (entV kd)).toArray seen).size = 0 ↔ ∀ e ∈ es, seen.contains e.2.2 = true := by
  unfold leftOf
  rw [← Array.length_toList]
  simp only [List.filter_toArray, List.length_eq_zero_iff, List.filter_eq_nil_iff, List.mem_map]
  constructor
  · intro h e he
    have := h _ ⟨e, he, rfl⟩
    simpa [entV] using this
  · rintro h _ ⟨e, he, rfl⟩
    have := h e he
    simpa [entV] using this
theorem left_mem {kd : IntKind} {es : Ent} {seen : Array Nat} {x : MapEntry} (h : x ∈ (leftOf (es.map (entV kd)).toArray seen).toList) : ∃ e ∈ es, x = entV kd e ∧ seen.contains e.2.2 = false := by
  unfold leftOf at h
  simp only [List.filter_toArray, List.mem_filter, List.mem_map] at h
  obtain ⟨⟨e, he, rfl⟩, h2⟩ := h
  exact ⟨e, he, rfl, by simpa [entV] using h2⟩
theorem G.nextEnd {x : Operand} {kd : IntKind} {b bi ck since c0 : Nat} {seen : Array Nat} {es : Ent} {u ui : Nat → SObj → List Seg} (hi : At L bi (.obj (.mapIter (some b) since seen c0)) ui) (ha : At L b (mapO kd es ck) u) (hold : ∀ e ∈ es, e.2.2 < since) (hsc : since ≤ c0) (hall : ∀ e ∈ es, seen.contains e.2.2 = true)
    (ho : o.op = .next x false) (hr : runs n ops F o) {d : Nat} (hd : o.dst = some d) (hn : Nat.blt d n = true) (hx : ev F x = .pointer (some ⟨bi, 0, none⟩))
    (k : G P W0 n SQ ops rest (upd F d (.tuple [Value.bool false].toArray)) D L) : G P W0 n SQ ops (o :: rest) F D L :=
  G.val _ hr hd hn (fun w hm => by
    rcases run_next_at (P := P) w o.type bi b since c0 seen (es.map (entV kd)).toArray ck (hm.get hi).2 (hm.get ha).2 (fun x hx => by simp at hx; obtain ⟨a, b', c, hx, rfl⟩ := hx; exact hold _ hx) hsc with ⟨_, h1⟩ | ⟨e, he, _⟩
    · simp [execOp, ho, hx, h1]
    · obtain ⟨e', he', rfl, hs⟩ := left_mem he
      rw [hall e' he'] at hs
      cases hs) k
theorem G.nextOne {x : Operand} {kd : IntKind} {b bi ck since c0 : Nat} {seen : Array Nat} {es : Ent} {u ui : Nat → SObj → List Seg} (hi : At L bi (.obj (.mapIter (some b) since seen c0)) ui) (ha : At L b (mapO kd es ck) u) (hold : ∀ e ∈ es, e.2.2 < since) (hsc : since ≤ c0) (hall : ¬ ∀ e ∈ es, seen.contains e.2.2 = true)
    (ho : o.op = .next x false) (hr : runs n ops F o) {d : Nat} (hd : o.dst = some d) (hn : Nat.blt d n = true) (hx : ev F x = .pointer (some ⟨bi, 0, none⟩))
    (k : ∀ e ∈ es, seen.contains e.2.2 = false → G P W0 n SQ ops rest (upd F d (.tuple [Value.bool true, .int kd e.1, e.2.1].toArray)) D (ui bi (.obj (.mapIter (some b) since (seen.push e.2.2) ck)))) : G P W0 n SQ ops (o :: rest) F D L :=
  G.eff hr hd hn fun w hm => by
    rcases run_next_at (P := P) w o.type bi b since c0 seen (es.map (entV kd)).toArray ck (hm.get hi).2 (hm.get ha).2 (fun x hx => by simp at hx; obtain ⟨a, b', c, hx, rfl⟩ := hx; exact hold _ hx) hsc with ⟨h0, _⟩ | ⟨e, he, w1, hw, h1⟩
    · exact absurd (left_iff.1 h0) hall
    · obtain ⟨e', he', rfl, hs⟩ := left_mem he
      have hm1 : Mem W0 w1 L := by rcases hw with rfl | rfl; exact hm; exact hm.drew
      exact ⟨_, _, _, by simp [execOp, ho, hx, h1]; exact ⟨⟨rfl, rfl⟩, rfl⟩, (hm1.obj hi (y := .mapIter (some b) since (seen.push e'.2.2) ck)).2, k e' he' hs⟩
theorem G.entry {x : Operand} {kd : IntKind} {b bi ck since : Nat} {seen : Array Nat} {es : Ent} {e : Int × Value × Nat} {u ui : Nat → SObj → List Seg} (hi : At L bi (.obj (.mapIter (some b) since (seen.push e.2.2) ck)) ui) (ha : At L b (mapO kd es ck) u) (he : e ∈ es) (hnd : (es.map (·.2.2)).Nodup)
    (ho : o.op = .entry x) (hr : runs n ops F o) {d : Nat} (hd : o.dst = some d) (hn : Nat.blt d n = true) (hx : ev F x = .pointer (some ⟨bi, 0, none⟩))
    (k : G P W0 n SQ ops rest (upd F d (.tuple [Value.int kd e.1, e.2.1].toArray)) D L) : G P W0 n SQ ops (o :: rest) F D L :=
  G.val _ hr hd hn (fun w hm => by
    have h1 := run_entry_at (P := P) w bi b since seen (es.map (entV kd)).toArray ck (entV kd e) (hm.get hi).2 (hm.get ha).2 (by simpa using List.mem_map_of_mem he) (by simpa [Function.comp_def, entV] using hnd)
    simp [execOp, ho, hx, h1, entV]) k
theorem run_delete_int {t kt et ty : TypeId} {kd : IntKind} {b ck : Nat} {es : Ent} {k0 : Int} {w : World} (hu : P.underlying t = some (.map kt et)) (hk : P.underlying kt = some (.int kd)) (hb : w.heap[b]? = some (.map (es.map (entV kd)).toArray ck)) (hnd : (es.map (·.1)).Nodup) (t2 : TypeId) :
    (Builtin.delete_ #[t, t2] ty #[.map (some b), .int kd k0]).run P w = .ok (.tuple #[]) { w with heap := w.heap.setIfInBounds b (.map ((es.filter fun e => !decide (e.1 = k0)).map (entV kd)).toArray ck) } := by
  have h1 : ∀ e w, (Instr.checkKey e 10000 kt (.int kd k0)).run P w = .ok () w := fun e w => MapKept.run_checkKey (d := .int kd) (k := .int kd k0) hk (by simp [MapKept.IsKey]) e 9999
  have h2 : ∀ w, (Instr.findKey kt (.int kd k0) (es.map (entV kd))).run P w = .ok (mfind k0 es 0) w := fun w => MapKept.run_findKey hk (findNow_eq kd k0 es 0)
  have h4 := MapKept.run_getObj_map (P := P) hb
  have h5 := mfind_split (k := k0) hnd 0
  cases hf : mfind k0 es 0 with
  | none =>
    rw [hf] at h5
    simp [Builtin.delete_, run_underlying hu, h4, h1, h2, hf, MapKept.run_setObj_map _ hb, Result.andThen, h5.1]
  | some p =>
    obtain ⟨i, v⟩ := p
    rw [hf] at h5
    obtain ⟨q, hq, hlt, he, _⟩ := h5
    obtain rfl : i = q := by omega
    have e1 : ((es.map (entV kd)).toArray.eraseIdxIfInBounds i) = ((es.filter fun e => !decide (e.1 = k0)).map (entV kd)).toArray := by
      rw [← he]
      apply Array.toList_inj.1
      simp [Array.eraseIdxIfInBounds, hlt]
      exact (ChangeMaps.map_eraseIdx (entV kd) es i).symm
    simp [Builtin.delete_, run_underlying hu, h4, h1, h2, hf, MapKept.run_setObj_map _ hb, Result.andThen]
    rw [← ChangeMaps.map_eraseIdx, he]
theorem G.delete {t t2 kt et : TypeId} {kd : IntKind} {x y : Operand} {b ck : Nat} {es : Ent} {k0 : Int} {u : Nat → SObj → List Seg} (ha : At L b (mapO kd es ck) u) (hnd : (es.map (·.1)).Nodup) (ho : o.op = .call { callee := .builtin .delete, args := #[x, y], argTypes := #[t, t2] }) (hr : runs n ops F o) (hd : o.dst = none)
    (hu : P.underlying t = some (.map kt et)) (hk : P.underlying kt = some (.int kd)) (hx : ev F x = .map (some b)) (hy : ev F y = .int kd k0)
    (k : G P W0 n SQ ops rest F D (u b (mapO kd (es.filter fun e => !decide (e.1 = k0)) ck))) : G P W0 n SQ ops (o :: rest) F D L :=
  G.effNone hr hd fun w hm => by
    have h1 := hm.obj ha (y := .map ((es.filter fun e => !decide (e.1 = k0)).map (entV kd)).toArray ck)
    have h2 := run_delete_int (P := P) (k0 := k0) (ty := o.type) hu hk h1.1 hnd t2
    exact ⟨_, _, _, by simp [execOp, ho, resolve, invoke, builtin, hx, hy, h2]; rfl, h1.2, k⟩
end rules
end Go.SL
