/-
  From what a row's frame tells of the slices that came in to what the walks ask of them; a function that hands back nothing new; appending onto nothing.
-/
import Derived.Test.YtjfjmhmfhkdcbabSLY
namespace Go.SL
open Go Go.RowKit

theorem row_cells {k : IntKind} {W : World} {a : Option Addr} {len cap : Nat} {zs : List Int}
    (h : (a = none ∧ len = 0 ∧ cap = 0 ∧ zs = []) ∨ ∃ x, a = some x ∧ len ≤ cap ∧ cap ≤ maxLen ∧ zs.length = cap ∧ (∀ i, i < zs.length → W.cell? (x.add i) = some (.int k (zs.getD i 0))) ∧ ∀ n ∈ zs, (Lit.int k n).wf = true) :
    len ≤ cap ∧ cap ≤ maxLen ∧ (zs.take len).length = len ∧ (∀ n ∈ zs.take len, (Lit.int k n).wf = true) ∧ ∀ L, Rd W L a ((zs.take len).map (Value.int k)) := by
  rcases h with ⟨rfl, rfl, rfl, rfl⟩ | ⟨x, rfl, hl, hm, hz, hc, hw⟩
  · exact ⟨Nat.le_refl _, by simp, rfl, by simp, fun L => Rd.nil⟩
  · have hlen : (zs.take len).length = len := by simp; omega
    refine ⟨hl, hm, hlen, fun n hn => hw n (List.mem_of_mem_take hn), fun L => ?_⟩
    rcases Nat.eq_zero_or_pos len with h0 | h0
    · subst h0; exact Rd.nil
    · have h1 := hc 0 (by omega)
      have hsp : (x.add 0).spot = none := by
        simpa using World.cell?_spot h1
      obtain ⟨b, off, spot⟩ := x
      have hspot : spot = none := by simpa [Addr.add] using hsp
      subst hspot
      refine Rd.old fun j hj => ?_
      simp only [List.length_map, hlen] at hj
      have h2 := hc j (by omega)
      rw [add_mul_addr] at h2
      have h4 : j < zs.length := by omega
      rw [h2]
      simp [List.getElem?_take, hj, List.getElem?_eq_getElem h4, List.getD]
theorem row_bytes {W : World} {a : Option Addr} {len cap : Nat} {zs : List Int}
    (h : (a = none ∧ len = 0 ∧ cap = 0 ∧ zs = []) ∨ ∃ x, a = some x ∧ len ≤ cap ∧ cap ≤ maxLen ∧ zs.length = cap ∧ (∀ i, i < zs.length → W.cell? (x.add i) = some (.int .u8 (zs.getD i 0))) ∧ ∀ n ∈ zs, (Lit.int .u8 n).wf = true) :
    ∃ xs : List UInt8, len = xs.length ∧ len ≤ cap ∧ cap ≤ maxLen ∧ ∀ L, Rd W L a (bytesV xs) := by
  obtain ⟨h1, h2, h3, h4, h5⟩ := row_cells h
  refine ⟨(zs.take len).map (fun n => UInt8.ofNat n.toNat), by simpa using h3.symm, h1, h2, fun L => ?_⟩
  have e : bytesV ((zs.take len).map (fun n => UInt8.ofNat n.toNat)) = (zs.take len).map (Value.int .u8) := by
    unfold bytesV
    rw [List.map_map]
    refine List.map_congr_left fun n hn => ?_
    have hw := h4 n hn
    have hb : 0 ≤ n ∧ n < 256 := by
      simp [Lit.wf, IntKind.min, IntKind.max, IntKind.signed, IntKind.bits] at hw
      omega
    simp only [Function.comp, byteV]
    congr 1
    simp
    omega
  rw [e]
  exact h5 L
theorem row_ints {W : World} {a : Option Addr} {len cap : Nat} {zs : List Int}
    (h : (a = none ∧ len = 0 ∧ cap = 0 ∧ zs = []) ∨ ∃ x, a = some x ∧ len ≤ cap ∧ cap ≤ maxLen ∧ zs.length = cap ∧ (∀ i, i < zs.length → W.cell? (x.add i) = some (.int .i64 (zs.getD i 0))) ∧ ∀ n ∈ zs, (Lit.int .i64 n).wf = true) :
    ∃ xs : List Int, len = xs.length ∧ len ≤ cap ∧ cap ≤ maxLen ∧ (∀ n ∈ xs, -9223372036854775808 ≤ n ∧ n ≤ 9223372036854775807) ∧ ∀ L, Rd W L a (xs.map (Value.int .i64)) := by
  obtain ⟨h1, h2, h3, h4, h5⟩ := row_cells h
  refine ⟨zs.take len, h3.symm, h1, h2, fun n hn => ?_, h5⟩
  have hw := h4 n hn
  simp [Lit.wf, IntKind.min, IntKind.max, IntKind.signed, IntKind.bits] at hw
  omega
theorem wf_i64 {n : Int} (h : (Lit.int .i64 n).wf = true) : -9223372036854775808 ≤ n ∧ n ≤ 9223372036854775807 := by
  simp [Lit.wf, IntKind.min, IntKind.max, IntKind.signed, IntKind.bits] at h
  omega
/-- a law that comes to true: what the row's frame asks -/
theorem law_true {P : Program} {W : World} {f : FuncId} {args : Array Value} (h : FnS P W f args [] (fun e _ => e = .returned (.bool true))) : Calls P f args W fun e w' => e = .returned (.bool true) ∧ Below W.heap.size W w' :=
  (h W (Mem.start W)).mono fun _ _ ⟨_, h1, h2⟩ => ⟨h2, h1.below⟩

section rules
variable {P : Program} {W0 : World} {n : Nat} {SQ : SPost} {F : Nat → Value} {D : List Deferred} {L : List Seg} {ops : Array Oper} {rest : List Oper} {o : Oper}
theorem Mem.empty {w : World} (h : Mem W0 w L) : Mem W0 w ([] :: L) := h.of_flat (by simp)
theorem G.appendNil {x : Operand} {t t2 e e2 : TypeId} {a : Option Addr} {m c sz by_ : Nat} {z : Value} {vs : List Value}
    (ho : o.op = .call { callee := .builtin .append, args := #[.const (.slice none 0 0), x], argTypes := #[t, t2] }) (hr : runs n ops F o) {d : Nat} (hd : o.dst = some d) (hn : Nat.blt d n = true)
    (hu : P.underlying t = some (.slice e)) (hu2 : P.underlying t2 = some (.slice e2)) (hi : Inf P e sz by_ z) (hz : z.cells.size = sz) (hby : 0 < by_)
    (hx : ev F x = .slice a m c) (hsz0 : 0 < sz) (hrd : Rd W0 L a vs) (hvs : vs.length = m * sz) (hv : ∀ u ∈ vs, cellsOk u = true) (hb : m * by_ ≤ 140737488355328)
    (k : ∀ v' seg', OwnS v' m vs e sz seg' → G P W0 n SQ ops rest (upd F d v') D (seg' :: L)) : G P W0 n SQ ops (o :: rest) F D L :=
  G.less (fun _ h => h.empty) (G.append (OwnS.nil e sz) ho hr hd hn hu hu2 hi hz hby rfl hx hsz0 hrd.cons hvs hv (by simpa using hb) (fun v' seg' h => k v' seg' (by simpa using h)))
theorem zeroBytes (m : Nat) : zeroRow (.int .u8 0) m 1 = bytesV (List.replicate m 0) := by
  rw [zeroRow_one rfl]; simp [bytesV, byteV]
theorem G.makeBytes {t e : TypeId} {x y : Operand} {kl kc : IntKind} {l c by_ : Nat} (ho : o.op = .makeSlice t x y) (hr : runs n ops F o) {d : Nat} (hd : o.dst = some d) (hn : Nat.blt d n = true)
    (hu : P.underlying t = some (.slice e)) (hi : Inf P e 1 by_ (.int .u8 0)) (hx : ev F x = .int kl (l : Int)) (hy : ev F y = .int kc (c : Int)) (h : l ≤ c ∧ by_ * c ≤ 281474976710656 ∧ c ≤ 9223372036854775807)
    (k : ∀ b, G P W0 n SQ ops rest (upd F d (.slice (some ⟨b, 0, none⟩) l c)) D ([(b, .row (bytesV (List.replicate c 0)) e c)] :: L)) : G P W0 n SQ ops (o :: rest) F D L :=
  G.makeSlice ho hr hd hn hu hi rfl hx hy ⟨by omega, by omega, by have := h.2.1; rw [← Int.natCast_mul]; omega, by omega⟩ (fun b => by
    have := k b
    simpa [zeroBytes] using this)
end rules
end Go.SL
