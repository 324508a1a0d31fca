/-
  Structs of three plain fields compared; a slice cleared; a byte of a text. No program in sight.
-/
import Derived.Test.YtooijfnimeoeaaaSLO
import Derived.Laws.StructEq
namespace Go.SL
open Go Go.RowKit

section
variable {P : Program} {w : World}
theorem run_part1 {t : TypeId} {td : TypeDesc} {xs : Array Value} {off : Nat} {v : Value} (hu : P.underlying t = some td) (hs : scalar td = true) (hx : xs[off]? = some v) : (part t xs off).run P w = .ok v w := by
  have ha : ∀ w, (isAgg t).run P w = .ok false w := run_isAgg_no hu hs
  simp [part, ha, hx]
/-- a struct of a long, an int and a text -/
structure ThreeF (P : Program) (t : TypeId) : Prop where
  f0 : ∃ f0 f1 f2 : Field, P.underlying t = some (.struct #[f0, f1, f2]) ∧ f0.name ≠ "_" ∧ f1.name ≠ "_" ∧ f2.name ≠ "_" ∧ f0.offset = 0 ∧ f1.offset = 1 ∧ f2.offset = 2 ∧ P.underlying f0.type = some (.int .i64) ∧ P.underlying f1.type = some (.int .i64) ∧ P.underlying f2.type = some .string
  stood : P.stoodInHeld t = false
  guard : P.eqGuardType P.depth t = false
theorem run_eq3 {t : TypeId} (h : ThreeF P t) (a b a' b' : Int) (s s' : ByteArray) : (Op.equalIn 10000 t (.agg #[.int .i64 a, .int .i64 b, .string s]) (.agg #[.int .i64 a', .int .i64 b', .string s'])).run P w = .ok (decide (a = a' ∧ b = b' ∧ s = s')) w := by
  obtain ⟨⟨f0, f1, f2, hu, n0, n1, n2, o0, o1, o2, u0, u1, u2⟩, hst, _⟩ := h
  have hf : P.fieldsOf t = #[f0, f1, f2] := by unfold Program.fieldsOf; rw [hu]
  rw [show (10000 : Nat) = 9999 + 1 from rfl, run_equalIn_agg w 9999 t _ _ (by rw [hf]; exact hu) hst, hf]
  have p0 : ∀ w x y z, (part f0.type #[x, y, z] 0).run P w = .ok x w := fun w x y z => run_part1 u0 rfl rfl
  have p1 : ∀ w x y z, (part f1.type #[x, y, z] 1).run P w = .ok y w := fun w x y z => run_part1 u1 rfl rfl
  have p2 : ∀ w x y z, (part f2.type #[x, y, z] 2).run P w = .ok z w := fun w x y z => run_part1 u2 rfl rfl
  have e0 : ∀ w (p q : Int), (Op.equalIn 9999 f0.type (.int .i64 p) (.int .i64 q)).run P w = .ok (p == q) w := fun w p q => run_equalIn_int w 9998 f0.type .i64 .i64 p q u0
  have e1 : ∀ w (p q : Int), (Op.equalIn 9999 f1.type (.int .i64 p) (.int .i64 q)).run P w = .ok (p == q) w := fun w p q => run_equalIn_int w 9998 f1.type .i64 .i64 p q u1
  have e2 : ∀ w (p q : ByteArray), (Op.equalIn 9999 f2.type (.string p) (.string q)).run P w = .ok (decide (p = q)) w := fun w p q => by rw [run_equalIn_string w 9998 f2.type p q u2, str_eq]
  simp only [Op.eqFields, n0, n1, n2, ne_eq, not_false_eq_true, if_true, o0, o1, o2, Sem.run_bind, p0, p1, p2, e0, e1, e2, Result.andThen_ok]
  by_cases h0 : a = a'
  · by_cases h1 : b = b'
    · by_cases h2 : s = s'
      · simp [h0, h1, h2, Sem.run_ite, p1, p2, e1, e2]
      · simp [h0, h1, h2, Sem.run_ite, p1, p2, e1, e2]
    · simp [h0, h1, Sem.run_ite, p1, e1]
  · simp [h0, Sem.run_ite]
end
section rules
variable {P : Program} {W0 : World} {n : Nat} {SQ : SPost} {F : Nat → Value} {D : List Deferred} {L : List Seg} {ops : Array Oper} {rest : List Oper} {o : Oper}
theorem Y.eq3 {t yt : TypeId} {x y : Operand} {a b a' b' : Int} {s s' : ByteArray} (ht : ThreeF P t) (ho : o.op = .binOp .eql t x y yt) (hx : ev F x = .agg #[.int .i64 a, .int .i64 b, .string s]) (hy : ev F y = .agg #[.int .i64 a', .int .i64 b', .string s']) : ∀ w, (execOp (ev F) o).run P w = .ok (.value (.bool (decide (a = a' ∧ b = b' ∧ s = s')))) w := fun w => by
  have h1 := run_eqGuard_agg w .eql t x y #[.int .i64 a, .int .i64 b, .string s] #[.int .i64 a', .int .i64 b', .string s'] ht.guard
  have h2 := run_eql_struct (P := P) w t #[.int .i64 a, .int .i64 b, .string s] #[.int .i64 a', .int .i64 b', .string s']
  rw [run_eq3 ht] at h2
  simp only [execOp, ho, hx, hy, Sem.run_bind, h1, h2, Result.andThen_ok, Sem.run_pure]
theorem G.effNone (hr : runs n ops F o) (hd : o.dst = none)
    (h : ∀ w, Mem W0 w L → ∃ v w' L', (execOp (ev F) o).run P w = .ok (.value v) w' ∧ Mem W0 w' L' ∧ G P W0 n SQ ops rest F D L') : G P W0 n SQ ops (o :: rest) F D L := by
  intro a w hs hD hm
  unfold wpList
  rw [if_pos (wanted_of hs hr)]
  refine .inl ?_
  obtain ⟨v, w', L', h1, h2, h3⟩ := h w hm
  unfold Oper.wp
  rw [hs.eval_fun, h1]
  show wpList P ops (lift W0 n SQ) rest (a.put o.dst v) w'
  rw [hd]
  exact h3 _ w' hs hD h2
/-- a slice of an own row is cleared -/
theorem G.clear {x : Operand} {t e : TypeId} {b off l c sz by_ : Nat} {z : Value} {cs : List Value} {e' : TypeId} {kk : Nat} {u : Nat → SObj → List Seg} (ha : At L b (.row cs e' kk) u) (ho : o.op = .call { callee := .builtin .clear, args := #[x], argTypes := #[t] }) (hr : runs n ops F o) (hd : o.dst = none)
    (hu : P.underlying t = some (.slice e)) (hi : Inf P e sz by_ z) (hzs : z.cells.size = sz) (hzc : ∀ v ∈ z.cells.toList, cellsOk v = true) (hx : ev F x = .slice (some ⟨b, off, none⟩) l c) (hlt : off + l * sz ≤ cs.length)
    (k : ∀ vs : List Value, vs.length = l * sz → G P W0 n SQ ops rest F D (u b (.row (cs.take off ++ vs ++ cs.drop (off + l * sz)) e' kk))) : G P W0 n SQ ops (o :: rest) F D L := by
  refine G.effNone hr hd fun w hm => ?_
  by_cases hl : l = 0
  · subst hl
    refine ⟨.tuple #[], w, u b (.row cs e' kk), ?_, hm.of_flat (by rw [ha.same]), ?_⟩
    · simp [execOp, ho, resolve, invoke, builtin, Builtin.clear_, hx, run_underlying hu]
    · have := k [] (by simp)
      simpa using this
  · have hzv : ∀ w, (zeroValue e).run P w = .ok z w := fun w => hi.run_zero
    obtain ⟨w', h1, h2⟩ := Mem.overs (P := P) (fun o' => ha.again o') (Builtin.zeroCells z.cells l).toList cs w off 0 (hm.of_flat (by rw [ha.same])) (by
      simp [Builtin.zeroCells, hzs]
      exact hlt) (fun v hv => by
      simp only [Builtin.zeroCells] at hv
      simp at hv
      obtain ⟨j, hj, rfl⟩ := hv
      apply hzc
      have hpos : 0 < z.cells.size := by
        rcases Nat.eq_zero_or_pos z.cells.size with h | h
        · rw [h, Nat.mul_zero] at hj; omega
        · exact h
      rw [getElem!_pos z.cells _ (Nat.mod_lt _ hpos)]
      exact Array.getElem_mem_toList _)
    have hlen : (Builtin.zeroCells z.cells l).toList.length = l * sz := by simp [Builtin.zeroCells, hzs]
    refine ⟨.tuple #[], w', _, ?_, ?_, k (Builtin.zeroCells z.cells l).toList hlen⟩
    · cases l with
      | zero => exact absurd rfl hl
      | succ l => simp [execOp, ho, resolve, invoke, builtin, Builtin.clear_, hx, run_underlying hu, hzv, h1]
    · simpa [hlen] using h2
theorem G.indexStr {t : TypeId} {x y : Operand} {s : ByteArray} {kd : IntKind} {i : Nat} {c : UInt8} (ho : o.op = .index t x y) (hr : runs n ops F o) {d : Nat} (hd : o.dst = some d) (hn : Nat.blt d n = true) (hu : P.underlying t = some .string) (hx : ev F x = .string s) (hy : ev F y = .int kd (i : Int)) (hc : s[i]? = some c)
    (k : G P W0 n SQ ops rest (upd F d (.int .u8 (c.toNat : Int))) D L) : G P W0 n SQ ops (o :: rest) F D L :=
  G.val _ hr hd hn (fun w _ => by
    simp [execOp, ho, hx, hy, Instr.index, run_underlying hu, hc, asIntOf]) k
end rules
end Go.SL
