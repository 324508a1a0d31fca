/-
  Slices that came in, whose elements are bools (or any values): from what a row's frame tells of them to what the walks ask.
-/
import Derived.Test.YtooijfnimeoeaaaSL6
import Derived.Test.YtooijfnimeoeaaaSL8
import Derived.Deep.Slices
namespace Go.SL
open Go Go.RowKit Go.Deep

theorem rd_of_cells {W : World} {x : Addr} {vs : List Value} (hc : ∀ i, i < vs.length → W.cell? (x.add i) = vs[i]?) : ∀ L, Rd W L (some x) vs := fun L => by
  rcases Nat.eq_zero_or_pos vs.length with h0 | h0
  · rw [List.eq_nil_of_length_eq_zero h0]
    exact Rd.nil
  · have h1 := hc 0 h0
    rw [List.getElem?_eq_getElem h0] at h1
    have hsp : (x.add 0).spot = none := World.cell?_spot h1
    obtain ⟨b, off, spot⟩ := x
    have hspot : spot = none := by simpa [Addr.add] using hsp
    subst hspot
    refine Rd.old fun j hj => ?_
    rw [← hc j hj, add_mul_addr]
/-- a slice of bools that came in -/
def BoolRow (W : World) (a : Option Addr) (len cap : Nat) (ks : List Bool) : Prop := len = ks.length ∧ len ≤ cap ∧ cap ≤ maxLen ∧ ∀ L, Rd W L a (ks.map Value.bool)
theorem open_boolRow {H : Type} {enc : TypeId × Value → H} {P : Program} {W : World} {base : Nat} {held : Bool} {t e : TypeId} {fuel len cap : Nat} {a : Option Addr} {x : DataW H × List MemPlace} (ht : P.underlying t = some (.slice e)) (he : P.underlying e = some .bool) (hc : P.cellsOf e = 1)
    (h : DataW.trod enc P W base (fun _ => true) held fuel t [.slice a len cap] = some x) : ∃ ks, BoolRow W a len cap ks := by
  rcases open_slice1 ht hc h with ⟨hcs, _⟩ | ⟨a', len', cap', m, n, V, D, Pl, hcs, hb, hl, hm, hmm, _, hx⟩
  · simp only [List.cons.injEq, Value.slice.injEq, and_true] at hcs
    obtain ⟨rfl, rfl, rfl⟩ := hcs
    exact ⟨[], rfl, Nat.le_refl _, by simp, fun L => Rd.nil⟩
  · simp only [List.cons.injEq, Value.slice.injEq, and_true] at hcs
    obtain ⟨rfl, rfl, rfl⟩ := hcs
    simp only [if_true] at hmm
    subst hmm
    obtain ⟨B, hB⟩ := choose_lt (α := Bool) (p := fun i b => V i = .bool b) (fun i hi => by
      obtain ⟨b, h1, h2⟩ := DataW.trod_bool he (hx i hi).2
      exact ⟨b, by simpa using h1⟩)
    refine ⟨(List.range len).map B, by simp, hl, hm, rd_of_cells fun i hi => ?_⟩
    simp only [List.length_map, List.length_range] at hi
    rw [(hx i (by omega)).1, hB i (by omega)]
    simp [hi]
theorem BoolRow.at {W : World} {p o : Nat} {ks : List Bool} (r : ∀ L, Rd W L (some ⟨p, o, none⟩) (ks.map Value.bool)) {i : Nat} (hlt : i < ks.length) {L : List Seg} (w : World) (hm : Mem W w L) : w.cell? ⟨p, o + (i : Int).toNat * 1, none⟩ = some (.bool ks[i]) := by
  have h := Rd.cell_at (r L) (j := i) (by simpa using hlt) w hm
  rw [List.getElem?_map, List.getElem?_eq_getElem hlt] at h
  simpa using h
end Go.SL
