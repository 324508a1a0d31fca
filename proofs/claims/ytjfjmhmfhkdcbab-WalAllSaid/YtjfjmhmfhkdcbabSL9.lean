/-
  Slices that came in, whose elements are bools (or any values): from what a row's frame tells of them to what the walks ask.
-/
import Derived.Test.YtjfjmhmfhkdcbabSL6
import Derived.Test.YtjfjmhmfhkdcbabSL8
import Derived.Deep.Slices
namespace Go.SL
open Go Go.RowKit Go.Deep

theorem rd_of_cells {W : World} {x : Addr} {vs : List Value} (hc : ∀ i, i < vs.length → W.cell? (x.add i) = vs[i]?) : ∀ L, Rd W L (some x) vs := fun L => by
  rcases Nat.eq_zero_or_pos vs.length with h0 | h0
  · rw [List.eq_nil_of_length_eq_zero h0]
    exact Rd.nil
  · have h1 := hc 0 h0
    rw [List.getElem?_eq_getElem h0] at h1
    have hsp : (x.add 0).spot = none := World.cell?_spot h1
    obtain ⟨b, off, spot⟩ := x
    have hspot : spot = none := by simpa [Addr.add] using hsp
    subst hspot
    refine Rd.old fun j hj => ?_
    rw [← hc j hj, add_mul_addr]
/-- a slice of bools that came in -/
def BoolRow (W : World) (a : Option Addr) (len cap : Nat) (ks : List Bool) : Prop := len = ks.length ∧ len ≤ cap ∧ cap ≤ maxLen ∧ ∀ L, Rd W L a (ks.map Value.bool)
theorem open_boolRow {H : Type} {enc : TypeId × Value → H} {P : Program} {W : World} {base : Nat} {held : Bool} {t e : TypeId} {fuel len cap : Nat} {a : Option Addr} {x : DataW H × List MemPlace} (ht : P.underlying t = some (.slice e)) (he : P.underlying e = some .bool) (hc : P.cellsOf e = 1)
    (h : DataW.trod enc P W base (fun _ => true) held fuel t [.slice a len cap] = some x) : ∃ ks, BoolRow W a len cap ks := by
  rcases open_slice1 ht hc h with ⟨hcs, _⟩ | ⟨a', len', cap', m, n, V, D, Pl, hcs, hb, hl, hm, hmm, _, hx⟩
  · simp only [List.cons.injEq, Value.slice.injEq, and_true] at hcs
    obtain ⟨rfl, rfl, rfl⟩ := hcs
    exact ⟨[], rfl, Nat.le_refl _, by simp, fun L => Rd.nil⟩
  · simp only [List.cons.injEq, Value.slice.injEq, and_true] at hcs
    obtain ⟨rfl, rfl, rfl⟩ := hcs
    simp only [if_true] at hmm
    subst hmm
    obtain ⟨B, hB⟩ := choose_lt (α := Bool) (p := fun i b => V i = .bool b) (fun i hi => by
      obtain ⟨b, h1, h2⟩ := DataW.trod_bool he (hx i hi).2
      exact ⟨b, by simpa using h1⟩)
    refine ⟨(List.range len).map B, by simp, hl, hm, rd_of_cells fun i hi => ?_⟩
    simp only [List.length_map, List.length_range] at hi
    rw [(hx i (by omega)).1, hB i (by omega)]
    simp [hi]
/-- a slice of slices of bytes that came in: of each its place, its room, its bytes -/
def RowsB (W : World) (a : Option Addr) (len cap : Nat) (ls : List (Option Addr × Nat × List UInt8)) : Prop :=
  len = ls.length ∧ len ≤ cap ∧ cap ≤ maxLen ∧ (∀ L, Rd W L a (ls.map fun e => .slice e.1 e.2.2.length e.2.1)) ∧ ∀ e ∈ ls, e.2.2.length ≤ e.2.1 ∧ ∀ L, Rd W L e.1 (bytesV e.2.2)
theorem open_rowsB {H : Type} {enc : TypeId × Value → H} {P : Program} {W : World} {base : Nat} {held : Bool} {t e q : TypeId} {fuel len cap : Nat} {a : Option Addr} {x : DataW H × List MemPlace} (ht : P.underlying t = some (.slice e)) (he : P.underlying e = some (.slice q)) (hq : P.underlying q = some (.int .u8)) (hc : P.cellsOf e = 1) (hc2 : P.cellsOf q = 1)
    (h : DataW.trod enc P W base (fun _ => true) held fuel t [.slice a len cap] = some x) : ∃ ls, RowsB W a len cap ls := by
  rcases open_slice1 ht hc h with ⟨hcs, _⟩ | ⟨a', len', cap', m, n, V, D, Pl, hcs, hb, hl, hm, hmm, _, hx⟩
  · simp only [List.cons.injEq, Value.slice.injEq, and_true] at hcs
    obtain ⟨rfl, rfl, rfl⟩ := hcs
    exact ⟨[], rfl, Nat.le_refl _, by simp, fun L => Rd.nil, fun e he => by cases he⟩
  · simp only [List.cons.injEq, Value.slice.injEq, and_true] at hcs
    obtain ⟨rfl, rfl, rfl⟩ := hcs
    simp only [if_true] at hmm
    subst hmm
    obtain ⟨E, hE⟩ := choose_lt (α := Option Addr × Nat × List UInt8) (p := fun i e => V i = .slice e.1 e.2.2.length e.2.1 ∧ e.2.2.length ≤ e.2.1 ∧ ∀ L, Rd W L e.1 (bytesV e.2.2)) (fun i hi => by
      rcases ChangeShapes.open_ints he hq hc2 (hx i hi).2 with ⟨hcs, _⟩ | ⟨y, l, c, zs, hcs, _, hl, hm, hz, _, hcell, hwz⟩
      · simp only [List.cons.injEq, and_true] at hcs
        exact ⟨(none, 0, []), hcs, Nat.le_refl _, fun L => Rd.nil⟩
      · simp only [List.cons.injEq, and_true] at hcs
        obtain ⟨xs, h1, h2, _, h4⟩ := row_bytes (W := W) (a := some y) (len := l) (cap := c) (zs := zs) (.inr ⟨y, rfl, hl, hm, by simpa using hz, hcell, hwz⟩)
        exact ⟨(some y, c, xs), by rw [hcs, h1], by simpa [← h1] using h2, h4⟩)
    refine ⟨(List.range len).map E, by simp, hl, hm, rd_of_cells fun i hi => ?_, fun e he => ?_⟩
    · simp only [List.length_map, List.length_range] at hi
      rw [(hx i (by omega)).1, (hE i (by omega)).1]
      simp [hi]
    · obtain ⟨i, hi, rfl⟩ := List.mem_map.1 he
      rw [List.mem_range] at hi
      exact (hE i (by omega)).2
theorem BoolRow.at {W : World} {p o : Nat} {ks : List Bool} (r : ∀ L, Rd W L (some ⟨p, o, none⟩) (ks.map Value.bool)) {i : Nat} (hlt : i < ks.length) {L : List Seg} (w : World) (hm : Mem W w L) : w.cell? ⟨p, o + (i : Int).toNat * 1, none⟩ = some (.bool ks[i]) := by
  have h := Rd.cell_at (r L) (j := i) (by simpa using hlt) w hm
  rw [List.getElem?_map, List.getElem?_eq_getElem hlt] at h
  simpa using h
theorem bytesV_set (l : List UInt8) (n : Nat) (c : UInt8) : (bytesV l).set n (.int .u8 (c.toNat : Int)) = bytesV (l.set n c) := by simp [bytesV, byteV, List.map_set]
/-- one byte of an own slice is set -/
theorem wf_u8 {n : Int} (h : (Lit.int .u8 n).wf = true) : ∃ x : UInt8, n = (x.toNat : Int) := by
  have hb : 0 ≤ n ∧ n < 256 := by
    simp [Lit.wf, IntKind.min, IntKind.max, IntKind.signed, IntKind.bits] at h
    omega
  exact ⟨UInt8.ofNat n.toNat, by simp; omega⟩
theorem OwnS.block {v : Value} {l : Nat} {cs : List Value} {t : TypeId} {sz : Nat} {seg : Seg} (h : OwnS v l cs t sz seg) (h0 : 0 < l) : ∃ b c k, v = .slice (some ⟨b, 0, none⟩) l c ∧ seg = [(b, .row cs t k)] ∧ c * sz ≤ k ∧ l ≤ c := by
  obtain ⟨_, ⟨_, rfl, _⟩ | ⟨b, c, k, h1, h2, h3, h4⟩⟩ := h
  · exact absurd h0 (by omega)
  · exact ⟨b, c, k, h1, h2, h3, h4⟩
theorem OwnS.cap {a : Option Addr} {l c : Nat} {cs : List Value} {t : TypeId} {sz : Nat} {seg : Seg} (h : OwnS (.slice a l c) l cs t sz seg) : l ≤ c := by
  obtain ⟨_, ⟨_, h2, _⟩ | ⟨b, c', k, h1, _, _, h4⟩⟩ := h
  · omega
  · cases h1
    exact h4
theorem OwnS.mk {b l c k : Nat} {cs : List Value} {t : TypeId} {sz : Nat} (h : cs.length = l * sz) (h1 : c * sz ≤ k) (h2 : l ≤ c) : OwnS (.slice (some ⟨b, 0, none⟩) l c) l cs t sz [(b, .row cs t k)] := ⟨h, .inr ⟨b, c, k, rfl, rfl, h1, h2⟩⟩
theorem u8_add1 (x : UInt8) : Value.int .u8 (IntKind.u8.wrap ((x.toNat : Int) + 1)) = .int .u8 ((x + 1).toNat : Int) := by
  have h1 : IntKind.u8.wrap ((x.toNat : Int) + 1) = (((x.toNat + 1) % 256 : Nat) : Int) := by
    rw [show (x.toNat : Int) + 1 = ((x.toNat + 1 : Nat) : Int) by omega]
    simp only [IntKind.wrap, IntKind.bits, IntKind.signed]
    simp
  rw [h1, UInt8.toNat_add]
  rfl
theorem u8_ofN (i : Nat) : Value.int .u8 (IntKind.u8.wrap (i : Int)) = .int .u8 ((UInt8.ofNat i).toNat : Int) := by
  have h1 : IntKind.u8.wrap (i : Int) = ((i % 256 : Nat) : Int) := by
    simp only [IntKind.wrap, IntKind.bits, IntKind.signed]
    simp
  rw [h1]
  congr 2
theorem Rd.ints_at {W0 : World} {p o : Nat} {zs : List Int} (r : ∀ L, Rd W0 L (some ⟨p, o, none⟩) (zs.map (Value.int .i64))) {i : Nat} (hlt : i < zs.length) {L : List Seg} (w : World) (hm : Mem W0 w L) : w.cell? ⟨p, o + (i : Int).toNat * 1, none⟩ = some (.int .i64 zs[i]) := by
  have h := Rd.cell_at (r L) (j := i) (by simpa using hlt) w hm
  rw [List.getElem?_map, List.getElem?_eq_getElem hlt] at h
  simpa using h
/-! The heap's list in another order -/
theorem Mem.perm {W0 w : World} {L L' : List Seg} (h : Mem W0 w L) (hp : L.Perm L') : Mem W0 w L' := h.of_flat hp.flatten
theorem Mem.up3 {W0 w : World} {a b c : Seg} {L : List Seg} (h : Mem W0 w (a :: b :: c :: L)) : Mem W0 w (c :: a :: b :: L) := h.perm ((List.perm_middle (l₁ := [a, b]) (a := c) (l₂ := L)))
theorem Mem.up4 {W0 w : World} {a b c d : Seg} {L : List Seg} (h : Mem W0 w (a :: b :: c :: d :: L)) : Mem W0 w (d :: a :: b :: c :: L) := h.perm ((List.perm_middle (l₁ := [a, b, c]) (a := d) (l₂ := L)))
theorem Mem.up5 {W0 w : World} {a b c d e : Seg} {L : List Seg} (h : Mem W0 w (a :: b :: c :: d :: e :: L)) : Mem W0 w (e :: a :: b :: c :: d :: L) := h.perm ((List.perm_middle (l₁ := [a, b, c, d]) (a := e) (l₂ := L)))
theorem Mem.up6 {W0 w : World} {a b c d e f : Seg} {L : List Seg} (h : Mem W0 w (a :: b :: c :: d :: e :: f :: L)) : Mem W0 w (f :: a :: b :: c :: d :: e :: L) := h.perm ((List.perm_middle (l₁ := [a, b, c, d, e]) (a := f) (l₂ := L)))
theorem Mem.up7 {W0 w : World} {a b c d e f g : Seg} {L : List Seg} (h : Mem W0 w (a :: b :: c :: d :: e :: f :: g :: L)) : Mem W0 w (g :: a :: b :: c :: d :: e :: f :: L) := h.perm ((List.perm_middle (l₁ := [a, b, c, d, e, f]) (a := g) (l₂ := L)))
theorem Mem.turn3 {W0 w : World} {a b c : Seg} {L : List Seg} (h : Mem W0 w (a :: b :: c :: L)) : Mem W0 w (c :: b :: a :: L) :=
  h.perm (((List.reverse_perm [a, b, c]).symm).append_right L)
theorem Mem.cons_of {W0 w : World} {s : Seg} {L L' : List Seg} (hp : L'.flatten.Sublist L.flatten) (h : Mem W0 w (s :: L)) : Mem W0 w (s :: L') := h.fewer (by simpa using hp)
end Go.SL
