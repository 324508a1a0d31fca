/-
  A slice of single cells that may begin behind the head of its own block (what s = s[n:] leaves): read, cut, appended to. No program in sight.
-/
import Derived.Test.YtjfjmhmfhkdcbabSL9
namespace Go.SL
open Go Go.RowKit

def OwnT (v : Value) (l : Nat) (xs : List Value) (t : TypeId) (seg : Seg) : Prop :=
  xs.length = l ∧ ((v = .slice none 0 0 ∧ l = 0 ∧ seg = []) ∨ ∃ b o c k pre, v = .slice (some ⟨b, o, none⟩) l c ∧ seg = [(b, .row (pre ++ xs) t k)] ∧ l ≤ c ∧ ((o = pre.length ∧ pre.length + c ≤ k) ∨ c = 0))
theorem OwnT.nil (t : TypeId) : OwnT (.slice none 0 0) 0 [] t [] := ⟨rfl, .inl ⟨rfl, rfl, rfl⟩⟩
theorem OwnT.form {v : Value} {l : Nat} {xs : List Value} {t : TypeId} {seg : Seg} (h : OwnT v l xs t seg) : ∃ a c, v = .slice a l c ∧ l ≤ c ∧ ∀ W0 L, Rd W0 (seg :: L) a xs := by
  obtain ⟨h0, ⟨rfl, rfl, rfl⟩ | ⟨b, o, c, k, pre, rfl, rfl, h3, h4⟩⟩ := h
  · have : xs = [] := List.eq_nil_of_length_eq_zero h0
    subst this
    exact ⟨none, 0, rfl, Nat.le_refl _, fun _ _ => Rd.nil⟩
  · refine ⟨_, c, rfl, h3, fun W0 L => ?_⟩
    by_cases hc : c = 0
    · have : xs = [] := List.eq_nil_of_length_eq_zero (by omega)
      subst this
      exact Rd.nil
    · obtain ⟨rfl, _⟩ := h4.resolve_right hc
      exact Rd.row At.here (fun j _ => by rw [List.getElem?_append_right (by omega)]; congr 1; omega)
theorem OwnT.drop {a : Option Addr} {l c : Nat} {xs : List Value} {t : TypeId} {seg : Seg} (h : OwnT (.slice a l c) l xs t seg) {n : Nat} (hn : n ≤ l) : OwnT (.slice (cutA a c n 1) (l - n) (c - n)) (l - n) (xs.drop n) t seg := by
  obtain ⟨h0, ⟨h1, rfl, rfl⟩ | ⟨b, o, c', k, pre, h1, rfl, h3, h4⟩⟩ := h
  · cases h1
    obtain rfl : n = 0 := by omega
    exact ⟨by simpa using h0, .inl ⟨by simp [cutA], rfl, rfl⟩⟩
  · cases h1
    refine ⟨by simp [h0], ?_⟩
    by_cases hc : c = n
    · subst hc
      obtain rfl : l = c := by omega
      refine .inr ⟨b, o, 0, k, pre ++ xs, by simp [cutA], by rw [List.drop_of_length_le (by omega), List.append_nil], by omega, .inr rfl⟩
    · obtain ⟨rfl, h5⟩ := h4.resolve_right (by omega)
      refine .inr ⟨b, pre.length + n, c - n, k, pre ++ xs.take n, ?_, by rw [List.append_assoc, List.take_append_drop], by omega, .inl ⟨by simp; omega, by simp; omega⟩⟩
      simp only [cutA, if_neg hc, Option.map_some, add_mul_addr, Nat.mul_one]
section rules
variable {P : Program} {W0 : World} {n : Nat} {SQ : SPost} {F : Nat → Value} {D : List Deferred} {L : List Seg} {ops : Array Oper} {rest : List Oper} {o : Oper}
theorem run_append_at {t ty e t2 e2 : TypeId} {by_ : Nat} {z : Value} (hu : P.underlying t = some (.slice e)) (hu2 : P.underlying t2 = some (.slice e2)) (hi : Inf P e 1 by_ z) {W0 w : World} {b c m k : Nat} {x : Value} {pre xs vs : List Value}
    (hm : Mem W0 w ([(b, .row (pre ++ xs) e k)] :: L)) (hk : pre.length + c ≤ k) (hc : xs.length + m ≤ c) (hvs : vs.length = m) (hv : ∀ u ∈ vs, cellsOk u = true)
    (hlen : (Builtin.lenOf x).run P w = .ok m w) (hfc : (Builtin.firstCells 1 m x).run P w = .ok vs.toArray w) :
    ∃ w', (Builtin.append_ #[t, t2] ty #[.slice (some ⟨b, pre.length, none⟩) xs.length c, x]).run P w = .ok (.slice (some ⟨b, pre.length, none⟩) (xs.length + m) c) w' ∧ Mem W0 w' ([(b, .row (pre ++ (xs ++ vs)) e k)] :: L) := by
  have hs : ∀ w, (sizeOf e).run P w = .ok 1 w := fun w => hi.run_size
  obtain ⟨w', h1, h2⟩ := Mem.pushes (P := P) vs (pre ++ xs) w (pre.length + xs.length) 0 hm (by simp) (by simp; omega) hv
  refine ⟨w', ?_, by rw [← List.append_assoc]; exact h2⟩
  simp [Builtin.append_, run_underlying hu, run_underlying hu2, hs, hlen, hfc, hc, add_mul_addr, h1]
/-- an append of at least one cell -/
theorem G.appendT {s x : Operand} {t t2 e e2 : TypeId} {a : Option Addr} {l m c by_ : Nat} {z v : Value} {xs vs : List Value} {seg : Seg} (hown : OwnT v l xs e seg)
    (ho : o.op = .call { callee := .builtin .append, args := #[s, x], argTypes := #[t, t2] }) (hr : runs n ops F o) {d : Nat} (hd : o.dst = some d) (hn : Nat.blt d n = true)
    (hu : P.underlying t = some (.slice e)) (hu2 : P.underlying t2 = some (.slice e2)) (hi : Inf P e 1 by_ z) (hz : z.cells.size = 1) (hby : 0 < by_)
    (hs : ev F s = v) (hx : ev F x = .slice a m c) (hrd : Rd W0 (seg :: L) a vs) (hvs : vs.length = m) (hm0 : 0 < m) (hv : ∀ u ∈ vs, cellsOk u = true) (hb : (l + m) * by_ ≤ 140737488355328)
    (k : ∀ v' seg', OwnT v' (l + m) (xs ++ vs) e seg' → G P W0 n SQ ops rest (upd F d v') D (seg' :: L)) : G P W0 n SQ ops (o :: rest) F D (seg :: L) :=
  G.eff hr hd hn fun w hm => by
    have hvs1 : vs.length = m * 1 := by omega
    have hne := hrd.ne hvs1 (by decide)
    have hrx := hown.form
    obtain ⟨a0, c1, hv1, hlc, hr1⟩ := hrx
    have hl : xs.length = l := hown.1
    have hnew : c1 < l + m → ∃ v' w' L', (execOp (ev F) o).run P w = .ok (.value v') w' ∧ Mem W0 w' L' ∧ G P W0 n SQ ops rest (upd F d v') D L' := fun hcap => by
      obtain ⟨c', hc', hrun⟩ := run_append_new (P := P) (ty := o.type) hu hu2 hi hz hby (w := w) (a := a0) (l := l) (c := c1) (m := m) (x := .slice a m c) (cs := xs) (vs := vs) (by omega) hb rfl
        (run_firstCells hvs1 (hrd.cells w.drew hm.drew) m rfl hne) (run_firstCells (by omega) ((hr1 W0 L).cells w.drew hm.drew) l rfl (fun h => by have := (hr1 W0 L).ne1 h; omega))
      have hm' := (hm.tail.drew).alloc _ (Holds.spare w.drew (xs ++ vs) (Builtin.zeroCells z.cells (c' - (l + m))).toList e)
      refine ⟨_, _, _, ?_, hm', k _ _ ⟨by simp [hl, hvs], .inr ⟨_, 0, c', _, [], rfl, rfl, by omega, .inl ⟨rfl, ?_⟩⟩⟩⟩
      · simp only [execOp, ho, resolve, invoke, builtin, Sem.run_bind, Sem.run_pure, Result.andThen_ok, List.map_toArray, List.map_cons, List.map_nil, hs, hv1, hx, hrun]
        rfl
      · simp only [List.length_append, hvs, hl, Array.length_toList]
        have : (Builtin.zeroCells z.cells (c' - (l + m))).size = (c' - (l + m)) * 1 := by simp [Builtin.zeroCells, hz]
        rw [this]
        simp
        omega
    obtain ⟨h0, ⟨rfl, rfl, rfl⟩ | ⟨b, off, c0, kk, pre, rfl, rfl, h3, h4⟩⟩ := hown
    · cases hv1
      exact hnew (by omega)
    · cases hv1
      by_cases hcap : l + m ≤ c1
      · obtain ⟨rfl, h5⟩ := h4.resolve_right (by omega)
        subst h0
        obtain ⟨w', h6, h7⟩ := run_append_at (P := P) (ty := o.type) hu hu2 hi hm h5 hcap hvs hv (x := .slice a m c) rfl (run_firstCells hvs1 (hrd.cells w hm) m rfl hne)
        refine ⟨_, w', _, ?_, h7, k _ _ ⟨by simp [hvs], .inr ⟨b, _, c1, kk, pre, rfl, rfl, hcap, .inl ⟨rfl, h5⟩⟩⟩⟩
        simp only [execOp, ho, resolve, invoke, builtin, Sem.run_bind, Sem.run_pure, Result.andThen_ok, List.map_toArray, List.map_cons, List.map_nil, hs, hx, h6]
      · exact hnew (by omega)
end rules
end Go.SL
