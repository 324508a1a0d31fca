/-
  A slice of structs that came in: opened, each element by its cells.
-/
import Derived.Test.YtjfjmhmfhkdcbabSL9
namespace Go.SL
open Go Go.RowKit Go.Deep

theorem open_structs {H : Type} {enc : TypeId × Value → H} {P : Program} {W : World} {base : Nat} {held : Bool} {t e : TypeId} {fs : Array Field} {fuel len cap : Nat} {a : Option Addr} {x : DataW H × List MemPlace} {α : Type} [Inhabited α] (cellsF : α → List Value) (Ok : α → Prop) (ht : P.underlying t = some (.slice e)) (he : P.underlying e = some (.struct fs)) (hpos : 0 < P.cellsOf e)
    (elem : ∀ (cs : List Value) (n : Nat), cs.length = P.cellsOf e → (∀ (i : Nat) (f : Field), fs[i]? = some f → ∃ y, DataW.trod enc P W base (fun _ => true) held n f.type ((cs.drop f.offset).take (P.cellsOf f.type)) = some y) → ∃ o : α, cs = cellsF o ∧ Ok o)
    (h : DataW.trod enc P W base (fun _ => true) held fuel t [.slice a len cap] = some x) :
    ∃ ls : List α, len = ls.length ∧ len ≤ cap ∧ cap ≤ maxLen ∧ (∀ L, Rd W L a (ls.flatMap cellsF)) ∧ ∀ o ∈ ls, Ok o ∧ (cellsF o).length = P.cellsOf e := by
  rcases open_slice ht h with ⟨hcs, _⟩ | ⟨a', len', cap', m, n, D, Pl, hcs, hb, hl, hm, hmm, _, hx⟩
  · simp only [List.cons.injEq, Value.slice.injEq, and_true] at hcs
    obtain ⟨rfl, rfl, rfl⟩ := hcs
    exact ⟨[], rfl, Nat.le_refl _, by simp, fun L => Rd.nil, fun o ho => by cases ho⟩
  · simp only [List.cons.injEq, Value.slice.injEq, and_true] at hcs
    obtain ⟨rfl, rfl, rfl⟩ := hcs
    simp only [if_true] at hmm
    subst hmm
    obtain ⟨E, hE⟩ := choose_lt (α := α) (p := fun i o => Ok o ∧ (cellsF o).length = P.cellsOf e ∧ ∀ j, j < P.cellsOf e → W.cell? (a'.add (i * P.cellsOf e + j)) = (cellsF o)[j]?) (fun i hi => by
      obtain ⟨cs, h1, h2⟩ := hx i hi
      obtain ⟨_, hlen, hcell⟩ := World.cells?_some h1
      obtain ⟨xs, n', _, _, _, hxl, hf⟩ := DataW.trod_struct he h2
      obtain ⟨o, rfl, hok⟩ := elem cs n' hlen (fun j f hj => by
        have hjl : j < fs.size := by
          rcases Nat.lt_or_ge j fs.size with h' | h'
          · exact h'
          · rw [Array.getElem?_eq_none h'] at hj; cases hj
        rw [hf j f hj, List.getElem?_eq_getElem (by omega)]
        exact ⟨_, rfl⟩)
      exact ⟨o, hok, hlen, fun j hj => by rw [← hcell j hj, add_add]⟩)
    have hel : ∀ o ∈ (List.range len).map E, Ok o ∧ (cellsF o).length = P.cellsOf e := fun o ho => by
      obtain ⟨i, hi, rfl⟩ := List.mem_map.1 ho
      rw [List.mem_range] at hi
      obtain ⟨h1, h2, _⟩ := hE i (by omega)
      exact ⟨h1, h2⟩
    refine ⟨(List.range len).map E, by simp, hl, hm, rd_of_cells fun i hi => ?_, hel⟩
    rw [chunk_length (fun o ho => (hel o ho).2), List.length_map, List.length_range] at hi
    have hq : i / P.cellsOf e < len := (Nat.div_lt_iff_lt_mul hpos).2 (by rwa [Nat.mul_comm] at hi)
    have hr := Nat.mod_lt i hpos
    have hdm : i / P.cellsOf e * P.cellsOf e + i % P.cellsOf e = i := by rw [Nat.mul_comm]; exact Nat.div_add_mod i _
    have h1 := (hE (i / P.cellsOf e) (by omega)).2.2 (i % P.cellsOf e) hr
    rw [hdm] at h1
    rw [h1]
    have h2 := chunk_get (f := cellsF) (k := P.cellsOf e) (l := (List.range len).map E) (fun o ho => (hel o ho).2) (i := i / P.cellsOf e) (j := i % P.cellsOf e) hr (by simpa using hq)
    rw [Nat.mul_comm, hdm] at h2
    rw [h2]
    simp
/-- an element of a row of chunks that came in -/
theorem Rd.chunk_at {W0 : World} {p o k : Nat} {α : Type} {f : α → List Value} {ls : List α} (r : ∀ L, Rd W0 L (some ⟨p, o, none⟩) (ls.flatMap f)) (hk : ∀ x ∈ ls, (f x).length = k) {i : Nat} (hi : i < ls.length) {L : List Seg} (w : World) (hm : Mem W0 w L) : ∀ j v, (f ls[i])[j]? = some v → w.cell? ⟨p, o + (i : Int).toNat * k + j, none⟩ = some v := fun j v hj => by
  have hjk : j < k := by rw [← hk _ (List.getElem_mem hi)]; exact (List.getElem?_eq_some_iff.1 hj).1
  have h1 := chunk_get hk hjk hi
  rw [hj] at h1
  have hlt := (List.getElem?_eq_some_iff.1 h1).1
  have h2 := Rd.cell_at (r L) hlt w hm
  rw [h1] at h2
  rw [Int.toNat_natCast, Nat.mul_comm i k, Nat.add_assoc]
  exact h2
/-- two whole numbers -/
def TwoInts (W : World) (a : Option Addr) (len cap : Nat) (ls : List (Int × Int)) : Prop :=
  len = ls.length ∧ len ≤ cap ∧ cap ≤ maxLen ∧ (∀ L, Rd W L a (ls.flatMap fun o => [.int .i64 o.1, .int .i64 o.2])) ∧ ∀ o ∈ ls, (-9223372036854775808 ≤ o.1 ∧ o.1 ≤ 9223372036854775807) ∧ (-9223372036854775808 ≤ o.2 ∧ o.2 ≤ 9223372036854775807)
theorem open_twoInts {H : Type} {enc : TypeId × Value → H} {P : Program} {W : World} {base : Nat} {held : Bool} {t e i0 : TypeId} {f0 f1 : Field} {fuel len cap : Nat} {a : Option Addr} {x : DataW H × List MemPlace} (ht : P.underlying t = some (.slice e)) (he : P.underlying e = some (.struct #[f0, f1])) (hc : P.cellsOf e = 2) (hi : P.underlying i0 = some (.int .i64)) (hci : P.cellsOf i0 = 1)
    (e0 : f0.type = i0 ∧ f0.offset = 0) (e1 : f1.type = i0 ∧ f1.offset = 1)
    (h : DataW.trod enc P W base (fun _ => true) held fuel t [.slice a len cap] = some x) : ∃ ls, TwoInts W a len cap ls := by
  obtain ⟨ls, h1, h2, h3, h4, h5⟩ := open_structs (α := Int × Int) (fun o => [.int .i64 o.1, .int .i64 o.2]) (fun o => (-9223372036854775808 ≤ o.1 ∧ o.1 ≤ 9223372036854775807) ∧ (-9223372036854775808 ≤ o.2 ∧ o.2 ≤ 9223372036854775807)) ht he (by omega) (fun cs n hlen hf => by
    rw [hc] at hlen
    match cs, hlen with
    | [u, v], _ =>
      obtain ⟨y0, hy0⟩ := hf 0 f0 rfl
      obtain ⟨y1, hy1⟩ := hf 1 f1 rfl
      rw [e0.1, e0.2, hci] at hy0
      rw [e1.1, e1.2, hci] at hy1
      obtain ⟨n0, g0, _, w0⟩ := DataW.trod_int hi hy0
      obtain ⟨n1, g1, _, w1⟩ := DataW.trod_int hi hy1
      simp only [List.drop_zero, List.take_succ_cons, List.take_zero, List.cons.injEq, and_true, List.drop_succ_cons] at g0 g1
      subst g0 g1
      exact ⟨(n0, n1), rfl, wf_i64 w0, wf_i64 w1⟩) h
  exact ⟨ls, h1, h2, h3, h4, fun o ho => (h5 o ho).1⟩
end Go.SL
