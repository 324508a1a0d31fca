/-
  DevAll: the operations that came in; what holds between a device and the document's; walked.
-/
import Derived.Test.YtooijfnimeoeaaaDe1
import Derived.Test.YtooijfnimeoeaaaDl3
namespace Go.Proofs.Ytooijfnimeoeaaa
open Go Go.SL Go.RowKit Go.Deep

/-- kind, number, bytes (place, room), what is kept (place, room) -/
structure DOp where
  kd : Int
  no : Int
  ba : Option Addr
  bc : Nat
  bs : List UInt8
  ka : Option Addr
  kc : Nat
  ks : List Bool
instance : Inhabited DOp := ⟨⟨0, 0, none, 0, [], none, 0, []⟩⟩
def dopC (o : DOp) : List Value := [.int .i64 o.kd, .int .i64 o.no, .slice o.ba o.bs.length o.bc, .slice o.ka o.ks.length o.kc]
theorem dopC_ok (o : DOp) : ∀ v ∈ dopC o, cellsOk v = true := by
  intro v hv
  simp only [dopC, List.mem_cons, List.not_mem_nil, or_false] at hv
  rcases hv with rfl | rfl | rfl | rfl <;> rfl
def DOk (W : World) (o : DOp) : Prop := o.bs.length ≤ o.bc ∧ o.bc ≤ maxLen ∧ o.ks.length ≤ o.kc ∧ o.kc ≤ maxLen ∧ (-9223372036854775808 ≤ o.no ∧ o.no ≤ 9223372036854775807) ∧ (∀ L, Rd W L o.ba (bytesV o.bs)) ∧ ∀ L, Rd W L o.ka (o.ks.map Value.bool)
def DOps (W : World) (a : Option Addr) (len cap : Nat) (ls : List DOp) : Prop :=
  len = ls.length ∧ len ≤ cap ∧ cap ≤ maxLen ∧ (∀ L, Rd W L a (ls.flatMap dopC)) ∧ ∀ o ∈ ls, DOk W o
theorem open_dops {H : Type} {enc : TypeId × Value → H} {P : Program} {W : World} {base : Nat} {held : Bool} {t e i0 i2 q i3 q3 : TypeId} {f0 f1 f2 f3 : Field} {fuel len cap : Nat} {a : Option Addr} {x : DataW H × List MemPlace} (ht : P.underlying t = some (.slice e)) (he : P.underlying e = some (.struct #[f0, f1, f2, f3])) (hc : P.cellsOf e = 4)
    (hi : P.underlying i0 = some (.int .i64)) (hci : P.cellsOf i0 = 1) (hi2 : P.underlying i2 = some (.slice q)) (hci2 : P.cellsOf i2 = 1) (hq : P.underlying q = some (.int .u8)) (hcq : P.cellsOf q = 1) (hi3 : P.underlying i3 = some (.slice q3)) (hci3 : P.cellsOf i3 = 1) (hq3 : P.underlying q3 = some .bool) (hcq3 : P.cellsOf q3 = 1)
    (e0 : f0.type = i0 ∧ f0.offset = 0) (e1 : f1.type = i0 ∧ f1.offset = 1) (e2 : f2.type = i2 ∧ f2.offset = 2) (e3 : f3.type = i3 ∧ f3.offset = 3)
    (h : DataW.trod enc P W base (fun _ => true) held fuel t [.slice a len cap] = some x) : ∃ ls, DOps W a len cap ls := by
  obtain ⟨ls, h1, h2, h3, h4, h5⟩ := open_structs (α := DOp) dopC (DOk W) ht he (by omega) (fun cs n hlen hf => by
    rw [hc] at hlen
    match cs, hlen with
    | [u, v, s, k], _ =>
      obtain ⟨y0, hy0⟩ := hf 0 f0 rfl
      obtain ⟨y1, hy1⟩ := hf 1 f1 rfl
      obtain ⟨y2, hy2⟩ := hf 2 f2 rfl
      obtain ⟨y3, hy3⟩ := hf 3 f3 rfl
      rw [e0.1, e0.2, hci] at hy0
      rw [e1.1, e1.2, hci] at hy1
      rw [e2.1, e2.2, hci2] at hy2
      rw [e3.1, e3.2, hci3] at hy3
      obtain ⟨n0, g0, _, w0⟩ := DataW.trod_int hi hy0
      obtain ⟨n1, g1, _, w1⟩ := DataW.trod_int hi hy1
      simp only [List.drop_zero, List.take_succ_cons, List.take_zero, List.cons.injEq, and_true, List.drop_succ_cons] at g0 g1 hy3
      subst g0 g1
      obtain ⟨ak, lk, ck, rfl⟩ : ∃ a l c, k = .slice a l c := by
        rcases open_slice hi3 hy3 with ⟨hcs, _⟩ | ⟨a', len', cap', m, n, D, Pl, hcs, _⟩
        · simp only [List.cons.injEq, and_true] at hcs; exact ⟨_, _, _, hcs⟩
        · simp only [List.cons.injEq, and_true] at hcs; exact ⟨_, _, _, hcs⟩
      obtain ⟨ks, hk1, hk2, hk3, hk4⟩ := open_boolRow hi3 hq3 hcq3 hy3
      subst hk1
      rcases ChangeShapes.open_ints hi2 hq hcq hy2 with ⟨hcs, _⟩ | ⟨y, l, c, zs, hcs, _, hl, hm, hz, _, hcell, hwz⟩
      · simp only [List.drop_succ_cons, List.drop_zero, List.take_succ_cons, List.take_zero, List.cons.injEq, and_true] at hcs
        subst hcs
        exact ⟨⟨n0, n1, none, 0, [], ak, ck, ks⟩, rfl, Nat.le_refl _, by simp, hk2, hk3, wf_i64 w1, fun L => Rd.nil, hk4⟩
      · simp only [List.drop_succ_cons, List.drop_zero, List.take_succ_cons, List.take_zero, List.cons.injEq, and_true] at hcs
        subst hcs
        obtain ⟨xs, h1, h2, h3, h4⟩ := row_bytes (W := W) (a := some y) (len := l) (cap := c) (zs := zs) (.inr ⟨y, rfl, hl, hm, by simpa using hz, hcell, hwz⟩)
        subst h1
        exact ⟨⟨n0, n1, some y, c, xs, ak, ck, ks⟩, rfl, h2, h3, hk2, hk3, wf_i64 w1, h4, hk4⟩) h
  exact ⟨ls, h1, h2, h3, h4, fun o ho => (h5 o ho).1⟩
theorem cellD {W0 : World} {L : List Seg} {p o : Nat} {ls : List DOp} (r : ∀ L, Rd W0 L (some ⟨p, o, none⟩) (ls.flatMap dopC)) {i : Nat} (h : i < ls.length) (w : World) (hm : Mem W0 w L) : ∀ j v, (dopC ls[i])[j]? = some v → w.cell? ⟨p, o + (i : Int).toNat * 4 + j, none⟩ = some v :=
  Rd.chunk_at r (fun _ _ => rfl) h w hm
/-- the document's fuse and the device's -/
def FR (d : Dv) (f : Int) : Prop := (f = 0 ∧ d.isDead = true) ∨ (0 < f ∧ f ≤ 9223372036854775807 ∧ d.dead = false ∧ d.lit = true ∧ d.fuse = f) ∨ (f = -1 ∧ d.dead = false ∧ d.lit = false)
theorem FR.isDead {d : Dv} {f : Int} (h : FR d f) : d.isDead = decide (f = 0) := by
  rcases h with ⟨rfl, h⟩ | ⟨h0, _, h1, h2, h3⟩ | ⟨rfl, h1, h2⟩
  · rw [h]; rfl
  · unfold Dv.isDead; rw [h1, h2, h3]; rfl
  · unfold Dv.isDead; rw [h1, h2]; rfl
theorem FR.rng {d : Dv} {f : Int} (h : FR d f) : -1 ≤ f ∧ f ≤ 9223372036854775807 := by
  rcases h with ⟨rfl, h⟩ | ⟨h0, h4, h1, h2, h3⟩ | ⟨rfl, h1, h2⟩ <;> omega
theorem FR.burn {d : Dv} {f : Int} (h : FR d f) (hf : f ≠ 0) {d2 : Dv} (e1 : d2.dead = d.burn.dead) (e2 : d2.lit = d.burn.lit) (e3 : d2.fuse = d.burn.fuse) : FR d2 (nextF f) := by
  rcases h with ⟨rfl, h⟩ | ⟨h0, h4, h1, h2, h3⟩ | ⟨rfl, h1, h2⟩
  · exact absurd rfl hf
  · have e4 : d2.fuse = f - 1 := by rw [e3]; simp only [Dv.burn, h2, if_true, h3]
    have e5 : d2.lit = true := by rw [e2]; exact h2
    have e6 : d2.dead = false := by rw [e1]; exact h1
    unfold nextF
    rw [if_pos h0]
    by_cases hz : f - 1 = 0
    · exact .inl ⟨hz, by unfold Dv.isDead; rw [e4, e5, hz]; simp⟩
    · exact .inr (.inl ⟨by omega, by omega, e6, e5, e4⟩)
  · exact .inr (.inr ⟨rfl, by rw [e1]; exact h1, by rw [e2]; exact h2⟩)
theorem FR.set {d : Dv} {f : Int} (h : FR d f) (hf : f ≠ 0) (n : Int) (hn : n ≤ 9223372036854775807) : FR (d.setFuse n) (max (-1) n) := by
  have hd : d.isDead = false := by rw [h.isDead]; exact decide_eq_false hf
  by_cases h0 : n = 0
  · subst h0; exact .inl ⟨rfl, by simp [Dv.setFuse, Dv.isDead]⟩
  · by_cases h1 : 0 < n
    · exact .inr (.inl ⟨by omega, by omega, by simp [Dv.setFuse, hd, h0], by simp [Dv.setFuse]; omega, by simp only [Dv.setFuse]; rw [if_neg (by omega)]; omega⟩)
    · exact .inr (.inr ⟨by omega, by simp [Dv.setFuse, hd, h0], by simp [Dv.setFuse]; omega⟩)
theorem FR.dead {d : Dv} (h : FR d 0) (n : Int) : FR (d.setFuse n) 0 := by
  have hd : d.isDead = true := by rw [h.isDead]; rfl
  exact .inl ⟨rfl, by show ((d.isDead || decide (n = 0)) || _) = true; rw [hd]; rfl⟩
/-- a sector that lasts is as it lasts -/
def Lst (l : List Sec) : Prop := ∀ s ∈ l, s.loose = false → s.now = s.lasts
theorem Lst.put {l : List Sec} (h : Lst l) (i : Nat) (b : List UInt8) : Lst (l.modify i (·.put b)) := by
  intro s hs hlo
  obtain ⟨j, hj, rfl⟩ := List.mem_iff_getElem.1 hs
  rw [List.getElem_modify] at hlo ⊢
  by_cases hij : i = j
  · rw [if_pos hij] at hlo; simp [Sec.put] at hlo
  · rw [if_neg hij] at hlo ⊢
    exact h _ (List.getElem_mem _) hlo
theorem Lst.flush (l : List Sec) : Lst (l.map Sec.flush) := by
  intro s hs _
  obtain ⟨t, _, rfl⟩ := List.mem_map.1 hs
  rfl
theorem Lst.both (xs : List (List UInt8)) : Lst (xs.map both) := by
  intro s hs _
  obtain ⟨t, _, rfl⟩ := List.mem_map.1 hs
  rfl
theorem Lst.new (n : Nat) : Lst (newDv n).l := by
  intro s hs _
  rw [List.eq_of_mem_replicate hs]
  rfl
def clamp8 (n : Int) : Nat := if n < 1 then 1 else if 8 < n then 8 else n.toNat
theorem clamp8_in (n : Int) : 1 ≤ clamp8 n ∧ clamp8 n ≤ 8 := by
  unfold clamp8
  split
  · omega
  · split <;> omega
theorem mem_one {W0 w : World} {s : Seg} {L : List Seg} (hs : s ∈ L) (h : Mem W0 w L) : Mem W0 w [s] := h.fewer (by
  simpa using List.sublist_flatten_of_mem hs)
theorem _root_.Go.SL.GA.cut {P : Program} {W0 : World} {n : Nat} {SQ : SPost} {F0 : Nat → Value} {D : List Deferred} {L0 : List Seg} {ops : Array Oper} {K : List Seg} {T : List Nat} {listed : Array Bool} {fuel : Nat} (fuel' : Nat) (listed' : Array Bool) (St : (Nat → Value) → List Seg → Prop)
    (C : ∀ F L, St F L → GA P W0 n SQ ops K T fuel' listed' F D L) (k : (∀ F L, St F L → GA P W0 n SQ ops K T fuel' listed' F D L) → GA P W0 n SQ ops K T fuel listed F0 D L0) : GA P W0 n SQ ops K T fuel listed F0 D L0 := k C
end Go.Proofs.Ytooijfnimeoeaaa
