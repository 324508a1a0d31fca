/-
  Structs that fill a block: read and written whole; heaps put in another order for a call. No program in sight.
-/
import Derived.Test.YtooijfnimeoeaaaSLS
import Derived.Test.YtooijfnimeoeaaaSLI
namespace Go.SL
open Go Go.RowKit

section perm
variable {a b c d e : Seg} {L : List Seg}
theorem P2 : (a :: b :: L).flatten.Perm (b :: a :: L).flatten := (List.Perm.swap b a L).flatten
theorem P3 : (a :: b :: c :: L).flatten.Perm (c :: a :: b :: L).flatten := (List.perm_middle (l₁ := [a, b]) (a := c) (l₂ := L)).flatten
theorem P4 : (a :: b :: c :: d :: L).flatten.Perm (d :: a :: b :: c :: L).flatten := (List.perm_middle (l₁ := [a, b, c]) (a := d) (l₂ := L)).flatten
theorem P5 : (a :: b :: c :: d :: e :: L).flatten.Perm (e :: a :: b :: c :: d :: L).flatten := (List.perm_middle (l₁ := [a, b, c, d]) (a := e) (l₂ := L)).flatten
end perm
section rules
variable {P : Program} {W0 : World} {n : Nat} {SQ : SPost} {F : Nat → Value} {D : List Deferred} {L : List Seg} {ops : Array Oper} {rest : List Oper} {o : Oper}
theorem Y.loadRow {t : TypeId} {x : Operand} {td : TypeDesc} {b sz by_ : Nat} {z : Value} {cs : List Value} {e : TypeId} {kk : Nat} {u : Nat → SObj → List Seg} (ha : At L b (.row cs e kk) u) (ho : o.op = .load t x) (hu : P.underlying t = some td) (hs : scalar td = false) (hi : Inf P t sz by_ z)
    (hl : cs.length = sz) (hx : ev F x = .pointer (some ⟨b, 0, none⟩)) : ∀ w, Mem W0 w L → (execOp (ev F) o).run P w = .ok (.value (.agg cs.toArray)) w :=
  Y.loadAgg cs ho hu hs hi hl hx (fun _ hm => agg_of_row hm ha (fun j v hj => by rw [Nat.zero_add]; exact hj))
theorem G.loadRow {t : TypeId} {x : Operand} {td : TypeDesc} {b sz by_ : Nat} {z : Value} {cs : List Value} {e : TypeId} {kk : Nat} {u : Nat → SObj → List Seg} (ha : At L b (.row cs e kk) u) (ho : o.op = .load t x) (hr : runs n ops F o) {d : Nat} (hd : o.dst = some d) (hn : Nat.blt d n = true) (hu : P.underlying t = some td) (hs : scalar td = false) (hi : Inf P t sz by_ z)
    (hl : cs.length = sz) (hx : ev F x = .pointer (some ⟨b, 0, none⟩)) (k : G P W0 n SQ ops rest (upd F d (.agg cs.toArray)) D L) : G P W0 n SQ ops (o :: rest) F D L :=
  G.loadAgg cs ho hr hd hn hu hs hi hl hx (fun _ hm => agg_of_row hm ha (fun j v hj => by rw [Nat.zero_add]; exact hj)) k
theorem G.stRow {t : TypeId} {x y : Operand} {b : Nat} {cs vs : List Value} {e : TypeId} {kk sz by_ : Nat} {z : Value} {u : Nat → SObj → List Seg} (ha : At L b (.row cs e kk) u) (ho : o.op = .store t x y) (hr : runs n ops F o) (hd : o.dst = none)
    (hi : Inf P t sz by_ z) (hx : ev F x = .pointer (some ⟨b, 0, none⟩)) (hy : ev F y = .agg vs.toArray) (hl : vs.length = sz) (hl2 : cs.length = vs.length) (hok : ∀ v ∈ vs, cellsOk v = true)
    (k : G P W0 n SQ ops rest F D (u b (.row vs e kk))) : G P W0 n SQ ops (o :: rest) F D L :=
  G.storeS ha ho hr hd hi hx hy hl hok (by omega) vs (by rw [List.take_zero, List.nil_append, List.drop_eq_nil_of_le (by omega), List.append_nil]) k
theorem Y.idxO {t e : TypeId} {x y : Operand} {kd : IntKind} {b off l c : Nat} {i : Nat} {by_ : Nat} {z : Value} (ho : o.op = .indexAddr t x y)
    (hu : P.underlying t = some (.slice e)) (hi : Inf P e 1 by_ z) (hx : ev F x = .slice (some ⟨b, off, none⟩) l c) (hy : ev F y = .int kd ((i : Nat) : Int)) (h : i < l) : ∀ w, (execOp (ev F) o).run P w = .ok (.value (.pointer (some ⟨b, off + i, none⟩))) w := fun w => by
  have h1 := Y.indexAddr (P := P) ho hu hi hx hy (by omega) w
  rw [h1]
  simp
theorem G.idxO {t e : TypeId} {x y : Operand} {kd : IntKind} {b off l c : Nat} {i : Nat} {by_ : Nat} {z : Value} (ho : o.op = .indexAddr t x y) (hr : runs n ops F o) {d : Nat} (hd : o.dst = some d) (hn : Nat.blt d n = true)
    (hu : P.underlying t = some (.slice e)) (hi : Inf P e 1 by_ z) (hx : ev F x = .slice (some ⟨b, off, none⟩) l c) (hy : ev F y = .int kd ((i : Nat) : Int)) (h : i < l)
    (k : G P W0 n SQ ops rest (upd F d (.pointer (some ⟨b, off + i, none⟩))) D L) : G P W0 n SQ ops (o :: rest) F D L :=
  G.val _ hr hd hn (fun w _ => Y.idxO ho hu hi hx hy h w) k
/-- an element of an own row of chunks -/
theorem row_chunk {α : Type} {f : α → List Value} {k : Nat} {ls : List α} {rs : List Value} (hk : ∀ x ∈ ls, (f x).length = k) {i : Nat} (hi : i < ls.length) : ∀ j v, (f ls[i])[j]? = some v → (ls.flatMap f ++ rs)[0 + (i : Int).toNat * k + j]? = some v := fun j v hj => by
  have hjk : j < k := by rw [← hk _ (List.getElem_mem hi)]; exact (List.getElem?_eq_some_iff.1 hj).1
  have h1 := chunk_get hk hjk hi
  rw [hj] at h1
  rw [Int.toNat_natCast, Nat.zero_add, Nat.mul_comm i k, List.getElem?_append_left (List.getElem?_eq_some_iff.1 h1).1]
  exact h1
end rules
end Go.SL
