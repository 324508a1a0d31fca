/-
  An own row of whole numbers: reads and writes at places counted by natural numbers. No program in sight.
-/
import Derived.Test.YtjfjmhmfhkdcbabSLO
namespace Go.SL
open Go Go.RowKit

/-- the cells of a row of numbers, and what lies behind it -/
def ic (d : Array Int) (rest : List Value) : List Value := d.toList.map (Value.int .i64) ++ rest
theorem ic_length (d : Array Int) (rest : List Value) : (ic d rest).length = d.size + rest.length := by simp [ic]
theorem ic_at {d : Array Int} {rest : List Value} {i : Nat} (h : i < d.size) : (ic d rest)[i]? = some (.int .i64 d[i]!) := by
  unfold ic
  rw [List.getElem?_append_left (by simpa using h)]
  simp [h]
theorem ic_set {d : Array Int} {rest : List Value} {i : Nat} (h : i < d.size) (x : Int) : (ic d rest).set i (.int .i64 x) = ic (d.setIfInBounds i x) rest := by
  unfold ic
  rw [List.set_append_left _ _ (by simpa using h)]
  simp [List.map_set]

section rules
variable {P : Program} {W0 : World} {n : Nat} {SQ : SPost} {F : Nat → Value} {D : List Deferred} {L : List Seg} {ops : Array Oper} {rest : List Oper} {o : Oper}
theorem Y.idxN {t e : TypeId} {x y : Operand} {kd : IntKind} {b l c : Nat} {i : Nat} {by_ : Nat} {z : Value} (ho : o.op = .indexAddr t x y)
    (hu : P.underlying t = some (.slice e)) (hi : Inf P e 1 by_ z) (hx : ev F x = .slice (some ⟨b, 0, none⟩) l c) (hy : ev F y = .int kd ((i : Nat) : Int)) (h : i < l) : ∀ w, (execOp (ev F) o).run P w = .ok (.value (.pointer (some ⟨b, i, none⟩))) w := fun w => by
  have h1 := Y.indexAddr (P := P) ho hu hi hx hy (by omega) w
  rw [h1]
  simp
theorem G.idxN {t e : TypeId} {x y : Operand} {kd : IntKind} {b l c : Nat} {i : Nat} {by_ : Nat} {z : Value} (ho : o.op = .indexAddr t x y) (hr : runs n ops F o) {d : Nat} (hd : o.dst = some d) (hn : Nat.blt d n = true)
    (hu : P.underlying t = some (.slice e)) (hi : Inf P e 1 by_ z) (hx : ev F x = .slice (some ⟨b, 0, none⟩) l c) (hy : ev F y = .int kd ((i : Nat) : Int)) (h : i < l)
    (k : G P W0 n SQ ops rest (upd F d (.pointer (some ⟨b, i, none⟩))) D L) : G P W0 n SQ ops (o :: rest) F D L :=
  G.val _ hr hd hn (fun w _ => Y.idxN ho hu hi hx hy h w) k
theorem Y.ldI {t : TypeId} {x : Operand} {td : TypeDesc} {b i : Nat} {a : Array Int} {rs : List Value} {e : TypeId} {kk : Nat} {u : Nat → SObj → List Seg} (ha : At L b (.row (ic a rs) e kk) u) (ho : o.op = .load t x) (hu : P.underlying t = some td) (hs : scalar td = true)
    (hx : ev F x = .pointer (some ⟨b, i, none⟩)) (h : i < a.size) : ∀ w, Mem W0 w L → (execOp (ev F) o).run P w = .ok (.value (.int .i64 a[i]!)) w :=
  Y.loadAt ha ho hu hs hx (ic_at h)
theorem G.ldI {t : TypeId} {x : Operand} {td : TypeDesc} {b i : Nat} {a : Array Int} {rs : List Value} {e : TypeId} {kk : Nat} {u : Nat → SObj → List Seg} (ha : At L b (.row (ic a rs) e kk) u) (ho : o.op = .load t x) (hr : runs n ops F o) {d : Nat} (hd : o.dst = some d) (hn : Nat.blt d n = true) (hu : P.underlying t = some td) (hs : scalar td = true)
    (hx : ev F x = .pointer (some ⟨b, i, none⟩)) (h : i < a.size) (k : G P W0 n SQ ops rest (upd F d (.int .i64 a[i]!)) D L) : G P W0 n SQ ops (o :: rest) F D L :=
  G.loadAt ha ho hr hd hn hu hs hx (ic_at h) k
theorem G.stI {t : TypeId} {x y : Operand} {b i : Nat} {v : Int} {a : Array Int} {rs : List Value} {e : TypeId} {kk by_ : Nat} {z : Value} {u : Nat → SObj → List Seg} (ha : At L b (.row (ic a rs) e kk) u) (ho : o.op = .store t x y) (hr : runs n ops F o) (hd : o.dst = none)
    (hi : Inf P t 1 by_ z) (hx : ev F x = .pointer (some ⟨b, i, none⟩)) (hy : ev F y = .int .i64 v) (h : i < a.size)
    (k : G P W0 n SQ ops rest F D (u b (.row (ic (a.setIfInBounds i v) rs) e kk))) : G P W0 n SQ ops (o :: rest) F D L :=
  G.store ha ho hr hd hi hx hy rfl (by rw [ic_length]; omega) _ (ic_set h v) k
/-! ### Reckoning on natural numbers -/
theorem Y.addN {t yt : TypeId} {x y : Operand} {i j : Nat} (ho : o.op = .binOp .add t x y yt) (hx : ev F x = .int .i64 ((i : Nat) : Int)) (hy : ev F y = .int .i64 ((j : Nat) : Int)) (hb : i + j ≤ 9223372036854775807) : ∀ w, (execOp (ev F) o).run P w = .ok (.value (.int .i64 ((i + j : Nat) : Int))) w :=
  Y.bin (P := P) ho hx hy (by show some (Value.int .i64 (IntKind.i64.wrap ((i : Int) + j))) = _; rw [wrap_i64 (by omega), Int.natCast_add])
theorem Y.subN {t yt : TypeId} {x y : Operand} {i j : Nat} (ho : o.op = .binOp .sub t x y yt) (hx : ev F x = .int .i64 ((i : Nat) : Int)) (hy : ev F y = .int .i64 ((j : Nat) : Int)) (hb : j ≤ i ∧ i ≤ 9223372036854775807) : ∀ w, (execOp (ev F) o).run P w = .ok (.value (.int .i64 ((i - j : Nat) : Int))) w :=
  Y.bin (P := P) ho hx hy (by show some (Value.int .i64 (IntKind.i64.wrap ((i : Int) - j))) = _; rw [wrap_i64 (by omega), Int.ofNat_sub hb.1])
theorem Y.mulN {t yt : TypeId} {x y : Operand} {i j : Nat} (ho : o.op = .binOp .mul t x y yt) (hx : ev F x = .int .i64 ((i : Nat) : Int)) (hy : ev F y = .int .i64 ((j : Nat) : Int)) (hb : i * j ≤ 9223372036854775807) : ∀ w, (execOp (ev F) o).run P w = .ok (.value (.int .i64 ((i * j : Nat) : Int))) w :=
  Y.bin (P := P) ho hx hy (by show some (Value.int .i64 (IntKind.i64.wrap ((i : Int) * j))) = _; rw [← Int.natCast_mul, wrap_i64 (by omega)])
theorem Y.quoN {t yt : TypeId} {x y : Operand} {i j : Nat} (ho : o.op = .binOp .quo t x y yt) (hx : ev F x = .int .i64 ((i : Nat) : Int)) (hy : ev F y = .int .i64 ((j : Nat) : Int)) (hb : 0 < j ∧ i ≤ 9223372036854775807) : ∀ w, (execOp (ev F) o).run P w = .ok (.value (.int .i64 ((i / j : Nat) : Int))) w := fun w => by
  have e : IntKind.i64.wrap ((i : Int).tdiv j) = ((i / j : Nat) : Int) := by
    rw [Int.tdiv_eq_ediv_of_nonneg (by omega), ← Int.natCast_ediv]
    have h1 := Nat.div_le_self i j
    generalize i / j = q at h1 ⊢
    exact wrap_i64 (by omega)
  rw [Y.quo (P := P) ho hx hy (by omega) w, e]
theorem G.addN {t yt : TypeId} {x y : Operand} {i j : Nat} (ho : o.op = .binOp .add t x y yt) (hr : runs n ops F o) {d : Nat} (hd : o.dst = some d) (hn : Nat.blt d n = true) (hx : ev F x = .int .i64 ((i : Nat) : Int)) (hy : ev F y = .int .i64 ((j : Nat) : Int)) (hb : i + j ≤ 9223372036854775807)
    (k : G P W0 n SQ ops rest (upd F d (.int .i64 ((i + j : Nat) : Int))) D L) : G P W0 n SQ ops (o :: rest) F D L := G.val _ hr hd hn (fun w _ => Y.addN ho hx hy hb w) k
theorem G.subN {t yt : TypeId} {x y : Operand} {i j : Nat} (ho : o.op = .binOp .sub t x y yt) (hr : runs n ops F o) {d : Nat} (hd : o.dst = some d) (hn : Nat.blt d n = true) (hx : ev F x = .int .i64 ((i : Nat) : Int)) (hy : ev F y = .int .i64 ((j : Nat) : Int)) (hb : j ≤ i ∧ i ≤ 9223372036854775807)
    (k : G P W0 n SQ ops rest (upd F d (.int .i64 ((i - j : Nat) : Int))) D L) : G P W0 n SQ ops (o :: rest) F D L := G.val _ hr hd hn (fun w _ => Y.subN ho hx hy hb w) k
theorem G.mulN {t yt : TypeId} {x y : Operand} {i j : Nat} (ho : o.op = .binOp .mul t x y yt) (hr : runs n ops F o) {d : Nat} (hd : o.dst = some d) (hn : Nat.blt d n = true) (hx : ev F x = .int .i64 ((i : Nat) : Int)) (hy : ev F y = .int .i64 ((j : Nat) : Int)) (hb : i * j ≤ 9223372036854775807)
    (k : G P W0 n SQ ops rest (upd F d (.int .i64 ((i * j : Nat) : Int))) D L) : G P W0 n SQ ops (o :: rest) F D L := G.val _ hr hd hn (fun w _ => Y.mulN ho hx hy hb w) k
theorem G.quoN {t yt : TypeId} {x y : Operand} {i j : Nat} (ho : o.op = .binOp .quo t x y yt) (hr : runs n ops F o) {d : Nat} (hd : o.dst = some d) (hn : Nat.blt d n = true) (hx : ev F x = .int .i64 ((i : Nat) : Int)) (hy : ev F y = .int .i64 ((j : Nat) : Int)) (hb : 0 < j ∧ i ≤ 9223372036854775807)
    (k : G P W0 n SQ ops rest (upd F d (.int .i64 ((i / j : Nat) : Int))) D L) : G P W0 n SQ ops (o :: rest) F D L := G.val _ hr hd hn (fun w _ => Y.quoN ho hx hy hb w) k
/-- a statement at the end: what holds behind it -/
theorem C.post {x : Code} (I : (Nat → Value) → List Deferred → List Seg → Prop) (h : C P W0 n (SPost.seq I SQ) x F D L) (k : ∀ F D L, I F D L → SQ .normal F D L) : C P W0 n SQ x F D L :=
  h.mono fun e F D L hq => by cases e <;> first | exact k F D L hq | exact hq
end rules
end Go.SL
