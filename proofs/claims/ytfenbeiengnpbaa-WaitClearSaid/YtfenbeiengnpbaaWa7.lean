/-
  Waits: what came in; begun, WaitNone, WaitChain, WaitNever walked.
-/
import Derived.Test.YtfenbeiengnpbaaWa6
namespace Go.Proofs.Ytfenbeiengnpbaa
open Go Go.SL Go.RowKit Go.Sort Go.Deep

/-- kind, transaction, and for whom: place, room, numbers -/
abbrev WOp := Int × Int × Option Addr × Nat × List Int
def wopC (o : WOp) : List Value := [.int .i64 o.1, .int .i64 o.2.1, .slice o.2.2.1 o.2.2.2.2.length o.2.2.2.1]
theorem wopC_ok (o : WOp) : ∀ v ∈ wopC o, cellsOk v = true := by
  intro v hv
  simp only [wopC, List.mem_cons, List.not_mem_nil, or_false] at hv
  rcases hv with rfl | rfl | rfl <;> rfl
def WOk (W : World) (o : WOp) : Prop := o.2.2.2.2.length ≤ o.2.2.2.1 ∧ o.2.2.2.1 ≤ maxLen ∧ ∀ L, Rd W L o.2.2.1 (o.2.2.2.2.map (Value.int .i64))
def WOps (W : World) (a : Option Addr) (len cap : Nat) (ls : List WOp) : Prop :=
  len = ls.length ∧ len ≤ cap ∧ cap ≤ maxLen ∧ (∀ L, Rd W L a (ls.flatMap wopC)) ∧ ∀ o ∈ ls, WOk W o
theorem open_wops {H : Type} {enc : TypeId × Value → H} {P : Program} {W : World} {base : Nat} {held : Bool} {t e i0 i1 i2 q : TypeId} {f0 f1 f2 : Field} {fuel len cap : Nat} {a : Option Addr} {x : DataW H × List MemPlace} (ht : P.underlying t = some (.slice e)) (he : P.underlying e = some (.struct #[f0, f1, f2])) (hc : P.cellsOf e = 3)
    (hi : P.underlying i0 = some (.int .i64)) (hci : P.cellsOf i0 = 1) (hi1 : P.underlying i1 = some (.int .i64)) (hci1 : P.cellsOf i1 = 1) (hi2 : P.underlying i2 = some (.slice q)) (hci2 : P.cellsOf i2 = 1) (hq : P.underlying q = some (.int .i64)) (hcq : P.cellsOf q = 1)
    (e0 : f0.type = i0 ∧ f0.offset = 0) (e1 : f1.type = i1 ∧ f1.offset = 1) (e2 : f2.type = i2 ∧ f2.offset = 2)
    (h : DataW.trod enc P W base (fun _ => true) held fuel t [.slice a len cap] = some x) : ∃ ls, WOps W a len cap ls := by
  obtain ⟨ls, h1, h2, h3, h4, h5⟩ := open_structs (α := WOp) wopC (WOk W) ht he (by omega) (fun cs n hlen hf => by
    rw [hc] at hlen
    match cs, hlen with
    | [u, v, s], _ =>
      obtain ⟨y0, hy0⟩ := hf 0 f0 rfl
      obtain ⟨y1, hy1⟩ := hf 1 f1 rfl
      obtain ⟨y2, hy2⟩ := hf 2 f2 rfl
      rw [e0.1, e0.2, hci] at hy0
      rw [e1.1, e1.2, hci1] at hy1
      rw [e2.1, e2.2, hci2] at hy2
      obtain ⟨n0, g0, _, w0⟩ := DataW.trod_int hi hy0
      obtain ⟨n1, g1, _, w1⟩ := DataW.trod_int hi1 hy1
      simp only [List.drop_zero, List.take_succ_cons, List.take_zero, List.cons.injEq, and_true, List.drop_succ_cons] at g0 g1
      subst g0 g1
      rcases ChangeShapes.open_ints hi2 hq hcq hy2 with ⟨hcs, _⟩ | ⟨y, l, c, zs, hcs, _, hl, hm, hz, _, hcell, hwz⟩
      · simp only [List.drop_succ_cons, List.drop_zero, List.take_succ_cons, List.take_zero, List.cons.injEq, and_true] at hcs
        subst hcs
        exact ⟨(n0, n1, none, 0, []), rfl, Nat.le_refl _, by simp, fun L => Rd.nil⟩
      · simp only [List.drop_succ_cons, List.drop_zero, List.take_succ_cons, List.take_zero, List.cons.injEq, and_true] at hcs
        subst hcs
        obtain ⟨xs, h1, h2, h3, _, h4⟩ := row_ints (W := W) (a := some y) (len := l) (cap := c) (zs := zs) (.inr ⟨y, rfl, hl, hm, by simpa using hz, hcell, hwz⟩)
        subst h1
        exact ⟨(n0, n1, some y, c, xs), rfl, h2, h3, h4⟩) h
  exact ⟨ls, h1, h2, h3, h4, fun o ho => (h5 o ho).1⟩
theorem cellW {W0 : World} {L : List Seg} {p o : Nat} {ls : List WOp} (r : ∀ L, Rd W0 L (some ⟨p, o, none⟩) (ls.flatMap wopC)) {i : Nat} (h : i < ls.length) (w : World) (hm : Mem W0 w L) : ∀ j v, (wopC ls[i])[j]? = some v → w.cell? ⟨p, o + (i : Int).toNat * 3 + j, none⟩ = some v :=
  Rd.chunk_at r (fun _ _ => rfl) h w hm
section wait
variable (W0 : World) (L0 : List Seg) (bw : Nat)
theorem set_yes (g : Int → List Int) (N : Nat) (s1 s2 s3 : Seg) (h : WtIs bw g N s1 s2 s3) (hN : N ≤ 1000) (t : Int) (a : Option Addr) (c : Nat) (xs : List Int) (hxs : xs.length ≤ 1000) (hr : Rd W0 (s1 :: s2 :: s3 :: L0) a (xs.map (Value.int .i64))) (hno : ¬ Rch g xs t) :
    FnS Try.prog W0 10 #[.pointer (some ⟨bw, 0, none⟩), .int .i64 t, .slice a xs.length c] (s1 :: s2 :: s3 :: L0)
      (fun e L' => ∃ (s1' s2' s3' : Seg), WtIs bw (setG g t (insAll xs)) (N + 1) s1' s2' s3' ∧ L' = s1' :: s2' :: s3' :: L0 ∧ e = .returned (.bool true)) :=
  (set_spec W0 L0 bw g N s1 s2 s3 h hN t a c xs hxs hr).mono fun e L' ⟨b, g', s1', s2', s3', hb, h1, h2, h3⟩ => by
    rcases hb with ⟨rfl, _, rfl⟩ | ⟨_, hy, _⟩
    · exact ⟨s1', s2', s3', h1, h2, h3⟩
    · exact absurd hy hno
theorem set_bad (g : Int → List Int) (N : Nat) (s1 s2 s3 : Seg) (h : WtIs bw g N s1 s2 s3) (hN : N ≤ 1000) (t : Int) (a : Option Addr) (c : Nat) (xs : List Int) (hxs : xs.length ≤ 1000) (hr : Rd W0 (s1 :: s2 :: s3 :: L0) a (xs.map (Value.int .i64))) (hyes : Rch g xs t) :
    FnS Try.prog W0 10 #[.pointer (some ⟨bw, 0, none⟩), .int .i64 t, .slice a xs.length c] (s1 :: s2 :: s3 :: L0)
      (fun e L' => ∃ (s1' s2' s3' : Seg), WtIs bw g (N + 1) s1' s2' s3' ∧ L' = s1' :: s2' :: s3' :: L0 ∧ e = .returned (.bool false)) :=
  (set_spec W0 L0 bw g N s1 s2 s3 h hN t a c xs hxs hr).mono fun e L' ⟨b, g', s1', s2', s3', hb, h1, h2, h3⟩ => by
    rcases hb with ⟨_, hn, _⟩ | ⟨rfl, _, rfl⟩
    · exact absurd hyes hn
    · exact ⟨s1', s2', s3', h1, h2, h3⟩
theorem round_val (g : Int → List Int) (N : Nat) (s1 s2 s3 : Seg) (h : WtIs bw g N s1 s2 s3) (hN : N ≤ 1000) (t : Int) (a : Option Addr) (c : Nat) (xs : List Int) (hxs : xs.length ≤ 100000) (hr : Rd W0 (s1 :: s2 :: s3 :: L0) a (xs.map (Value.int .i64))) (b : Bool) (hb : b = true ↔ Rch g xs t) :
    FnS Try.prog W0 14 #[.pointer (some ⟨bw, 0, none⟩), .int .i64 t, .slice a xs.length c] (s1 :: s2 :: s3 :: L0) (fun e L' => L' = s1 :: s2 :: s3 :: L0 ∧ e = .returned (.bool b)) :=
  (round_spec W0 L0 bw g N s1 s2 s3 h hN t a c xs hxs hr).mono fun e L' ⟨h1, b', h2, h3⟩ => ⟨h1, by rw [h3, show b' = b from Bool.eq_iff_iff.2 (h2.trans hb.symm)]⟩
theorem on_val (g : Int → List Int) (N : Nat) (s1 s2 s3 : Seg) (h : WtIs bw g N s1 s2 s3) (hN : N ≤ 1000) (t : Int) (l : List Int) (hl : g t = l) : FnS Try.prog W0 17 #[.pointer (some ⟨bw, 0, none⟩), .int .i64 t] (s1 :: s2 :: s3 :: L0)
    (fun e L' => ∃ a c so, OwnS (.slice a l.length c) l.length (l.map (Value.int .i64)) 2 1 so ∧ L' = so :: s1 :: s2 :: s3 :: L0 ∧ e = .returned (.slice a l.length c)) := by
  subst hl
  refine (on_spec W0 L0 bw g N s1 s2 s3 h hN t).mono fun e L' ⟨v, so, h1, h2, h3⟩ => ?_
  obtain ⟨a, c, rfl, _⟩ := h1.form
  exact ⟨a, c, so, h1, h2, h3⟩
end wait
/-! ### begun -/
abbrev g0 : Int → List Int := fun _ => []
abbrev g1 : Int → List Int := setG g0 1 (insAll [2])
abbrev g2 : Int → List Int := setG g1 2 (insAll [3, 3])
abbrev g3 : Int → List Int := clearG g2 2
abbrev g4 : Int → List Int := setG g3 3 (insAll [1])
theorem not_rch {g : Int → List Int} {on sl : List Int} {t : Int} (h1 : ∀ y ∈ on, y ∈ sl) (h2 : ∀ x ∈ sl, ∀ y ∈ g x, y ∈ sl) (h3 : t ∉ sl) : ¬ Rch g on t := fun h => h3 (h.closed h1 h2)
theorem b1 : ¬ Rch g0 [2] 1 := not_rch (sl := [2]) (by simp) (by simp) (by simp)
theorem b2 : ¬ Rch g1 [3, 3] 2 := not_rch (sl := [3]) (by simp) (by decide) (by simp)
theorem b3 : Rch g2 [1] 3 := .step (x := 2) (.step (x := 1) (.base (by simp)) (by decide)) (by decide)
theorem b4 : ¬ Rch g3 [1] 3 := not_rch (sl := [1]) (by simp) (by decide) (by simp)
section laws
variable (W0 : World)
theorem wbegun_spec (L : List Seg) : FnS Try.prog W0 8 #[] L (fun e L' => L' = L ∧ e = .returned (.bool true)) := by
  refine FnS.of (args := []) Try.func8 rfl rfl ?_
  refine C.seq ?_
  refine C.region ?_
  refine G.assignB rfl trivial rfl rfl rfl ?_
  refine G.nil ?_
  refine C.seq ?_
  refine C.region ?_
  refine G.call E9 rfl rfl trivial rfl rfl (wnew_spec W0 L) rfl ?_
  rintro e L2 ⟨bw, s1, s2, s3, h1, rfl, rfl⟩
  refine G.assignP rfl trivial rfl rfl rfl ?_
  refine G.nil ?_
  refine C.seq ?_
  refine C.seq ?_
  refine C.region ?_
  refine G.moveP rfl trivial rfl rfl rfl ?_
  refine G.ptrEq rfl trivial rfl rfl Try.underlying24 rfl rfl ?_
  refine G.nil ?_
  refine C.condF rfl ?_
  refine C.skip ?_
  refine C.seq ?_
  refine C.region ?_
  refine G.moveP rfl trivial rfl rfl rfl ?_
  refine G.buildSliceL (cs := [.int .i64 2]) (zs := [(.int .i64 0)]) rfl trivial rfl rfl Try.underlying30 I2 rfl (by kernel_rfl) rfl rfl ?_
  intro b11
  refine G.call E10 rfl rfl trivial rfl rfl (FnS.perm (set_yes W0 ([(b11, .row [.int .i64 2] 2 1)] :: L) bw g0 0 s1 s2 s3 h1 (by decide) 1 (some ⟨b11, 0, none⟩) 1 [2] (by decide) (Rd.row0 (.next (.next (.next .here)))) b1) P4.symm) rfl ?_
  rintro e L2 ⟨s4, s5, s6, h2, rfl, rfl⟩
  refine G.less (L' := s4 :: s5 :: s6 :: L) (fun _ h => h.fewer (by simp)) ?_
  refine G.moveP rfl trivial rfl rfl rfl ?_
  refine G.buildSliceL (cs := [.int .i64 3, .int .i64 3]) (zs := [(.int .i64 0), (.int .i64 0)]) rfl trivial rfl rfl Try.underlying30 I2 rfl (by kernel_rfl) rfl rfl ?_
  intro b14
  refine G.call E10 rfl rfl trivial rfl rfl (FnS.perm (set_yes W0 ([(b14, .row [.int .i64 3, .int .i64 3] 2 2)] :: L) bw g1 1 s4 s5 s6 h2 (by decide) 2 (some ⟨b14, 0, none⟩) 2 [3, 3] (by decide) (Rd.row0 (.next (.next (.next .here)))) b2) P4.symm) rfl ?_
  rintro e L2 ⟨s7, s8, s9, h3, rfl, rfl⟩
  refine G.less (L' := s7 :: s8 :: s9 :: L) (fun _ h => h.fewer (by simp)) ?_
  refine G.assignB rfl trivial rfl rfl rfl ?_
  refine G.assignB rfl trivial rfl rfl rfl ?_
  refine G.nil ?_
  refine C.seq ?_
  refine C.region ?_
  refine G.moveP rfl trivial rfl rfl rfl ?_
  refine G.buildSliceL (cs := [.int .i64 1]) (zs := [(.int .i64 0)]) rfl trivial rfl rfl Try.underlying30 I2 rfl (by kernel_rfl) rfl rfl ?_
  intro b17
  refine G.call E14 rfl rfl trivial rfl rfl (FnS.perm (round_val W0 ([(b17, .row [.int .i64 1] 2 1)] :: L) bw g2 2 s7 s8 s9 h3 (by decide) 3 (some ⟨b17, 0, none⟩) 1 [1] (by decide) (Rd.row0 (.next (.next (.next .here)))) true ⟨fun _ => b3, fun _ => rfl⟩) P4.symm) rfl ?_
  rintro e L2 ⟨rfl, rfl⟩
  refine G.less (L' := s7 :: s8 :: s9 :: L) (fun _ h => h.fewer (by simp)) ?_
  refine G.assignB rfl trivial rfl rfl rfl ?_
  refine G.nil ?_
  refine C.seq ?_
  refine C.region ?_
  refine G.moveP rfl trivial rfl rfl rfl ?_
  refine G.buildSliceL (cs := [.int .i64 1]) (zs := [(.int .i64 0)]) rfl trivial rfl rfl Try.underlying30 I2 rfl (by kernel_rfl) rfl rfl ?_
  intro b20
  refine G.call E10 rfl rfl trivial rfl rfl (FnS.perm (set_bad W0 ([(b20, .row [.int .i64 1] 2 1)] :: L) bw g2 2 s7 s8 s9 h3 (by decide) 3 (some ⟨b20, 0, none⟩) 1 [1] (by decide) (Rd.row0 (.next (.next (.next .here)))) b3) P4.symm) rfl ?_
  rintro e L2 ⟨s10, s11, s12, h4, rfl, rfl⟩
  refine G.less (L' := s10 :: s11 :: s12 :: L) (fun _ h => h.fewer (by simp)) ?_
  refine G.assignB rfl trivial rfl rfl rfl ?_
  refine G.nil ?_
  refine C.seq ?_
  refine C.region ?_
  refine G.moveP rfl trivial rfl rfl rfl ?_
  refine G.call E17 rfl rfl trivial rfl rfl (on_val W0 L bw g2 3 s10 s11 s12 h4 (by decide) 2 [3] (by decide)) rfl ?_
  rintro e L2 ⟨a23, c23, s23, hv23, rfl, rfl⟩
  obtain ⟨bo, co, ko, hoe, rfl, _, _⟩ := hv23.block (by decide)
  cases hoe
  refine G.assignS rfl trivial rfl rfl rfl ?_
  refine G.nil ?_
  refine C.seq ?_
  refine C.region ?_
  refine G.moveP rfl trivial rfl rfl rfl ?_
  refine G.call E12 rfl rfl trivial rfl rfl (FnS.perm (clear_spec W0 ([(bo, .row ([3].map (Value.int .i64)) 2 ko)] :: L) bw g2 3 s10 s11 s12 h4 2) P4.symm) rfl ?_
  rintro e L2 ⟨s13, s14, s15, h5, rfl, rfl⟩
  refine G.nil ?_
  refine C.seq ?_
  refine C.region ?_
  refine G.moveB rfl trivial rfl rfl rfl ?_
  refine G.moveB rfl trivial rfl rfl rfl ?_
  refine G.moveB rfl ⟨_, rfl, rfl, rfl⟩ rfl rfl rfl ?_
  first | refine G.pickT rfl trivial rfl rfl rfl rfl ?_ | refine G.pickF rfl trivial rfl rfl rfl rfl ?_
  refine G.moveB rfl trivial rfl rfl rfl ?_
  refine G.moveB rfl ⟨_, rfl, rfl, rfl⟩ rfl rfl rfl ?_
  first | refine G.pickT rfl trivial rfl rfl rfl rfl ?_ | refine G.pickF rfl trivial rfl rfl rfl rfl ?_
  refine G.moveB rfl trivial rfl rfl rfl ?_
  refine G.moveB rfl ⟨_, rfl, rfl, rfl⟩ rfl rfl rfl ?_
  first | refine G.notD rfl ⟨_, rfl, rfl, rfl⟩ rfl rfl rfl ?_ | refine G.not rfl ⟨_, rfl, rfl, rfl⟩ rfl rfl rfl ?_
  first | refine G.pickT rfl trivial rfl rfl rfl rfl ?_ | refine G.pickF rfl trivial rfl rfl rfl rfl ?_
  refine G.moveB rfl trivial rfl rfl rfl ?_
  refine G.moveS rfl ⟨_, rfl, rfl, rfl⟩ rfl rfl rfl ?_
  refine G.lenSlice rfl ⟨_, rfl, rfl, rfl⟩ rfl rfl Try.underlying30 rfl ?_
  refine G.bin rfl ⟨_, rfl, rfl, rfl⟩ rfl rfl rfl rfl rfl ?_
  first | refine G.pickT rfl trivial rfl rfl rfl rfl ?_ | refine G.pickF rfl trivial rfl rfl rfl rfl ?_
  refine G.moveB rfl trivial rfl rfl rfl ?_
  refine G.moveS rfl ⟨_, rfl, rfl, rfl⟩ rfl rfl rfl ?_
  refine G.indexAddr rfl ⟨_, rfl, rfl, rfl⟩ rfl rfl Try.underlying30 I2 rfl rfl (by simp) ?_
  refine G.loadAt (v := .int .i64 3) (.next (.next (.next .here))) rfl ⟨_, rfl, rfl, rfl⟩ rfl rfl Try.underlying2 rfl rfl rfl ?_
  refine G.bin rfl ⟨_, rfl, rfl, rfl⟩ rfl rfl rfl rfl rfl ?_
  first | refine G.pickT rfl trivial rfl rfl rfl rfl ?_ | refine G.pickF rfl trivial rfl rfl rfl rfl ?_
  refine G.moveB rfl trivial rfl rfl rfl ?_
  refine G.moveP rfl ⟨_, rfl, rfl, rfl⟩ rfl rfl rfl ?_
  refine G.call E17 rfl rfl ⟨_, rfl, rfl, rfl⟩ rfl rfl (on_val W0 _ bw g3 3 s13 s14 s15 h5 (by decide) 1 [] (by decide)) rfl ?_
  rintro e L2 ⟨a50, c50, s50, hv50, rfl, rfl⟩
  refine G.less (L' := s13 :: s14 :: s15 :: L) (fun _ h => h.tail.fewer (by simp)) ?_
  refine G.lenSlice rfl ⟨_, rfl, rfl, rfl⟩ rfl rfl Try.underlying30 rfl ?_
  refine G.bin rfl ⟨_, rfl, rfl, rfl⟩ rfl rfl rfl rfl rfl ?_
  first | refine G.pickT rfl trivial rfl rfl rfl rfl ?_ | refine G.pickF rfl trivial rfl rfl rfl rfl ?_
  refine G.moveB rfl trivial rfl rfl rfl ?_
  refine G.moveP rfl ⟨_, rfl, rfl, rfl⟩ rfl rfl rfl ?_
  refine G.buildSliceL (cs := [.int .i64 1]) (zs := [(.int .i64 0)]) rfl ⟨_, rfl, rfl, rfl⟩ rfl rfl Try.underlying30 I2 rfl (by kernel_rfl) rfl rfl ?_
  intro b56
  refine G.call E10 rfl rfl ⟨_, rfl, rfl, rfl⟩ rfl rfl (FnS.perm (set_yes W0 ([(b56, .row [.int .i64 1] 2 1)] :: L) bw g3 3 s13 s14 s15 h5 (by decide) 3 (some ⟨b56, 0, none⟩) 1 [1] (by decide) (Rd.row0 (.next (.next (.next .here)))) b4) P4.symm) rfl ?_
  rintro e L2 ⟨s16, s17, s18, h6, rfl, rfl⟩
  refine G.less (L' := s16 :: s17 :: s18 :: L) (fun _ h => h.fewer (by simp)) ?_
  first | refine G.pickT rfl trivial rfl rfl rfl rfl ?_ | refine G.pickF rfl trivial rfl rfl rfl rfl ?_
  refine G.moveB rfl trivial rfl rfl rfl ?_
  refine G.moveP rfl ⟨_, rfl, rfl, rfl⟩ rfl rfl rfl ?_
  refine G.buildSliceL (cs := [.int .i64 1]) (zs := [(.int .i64 0)]) rfl ⟨_, rfl, rfl, rfl⟩ rfl rfl Try.underlying30 I2 rfl (by kernel_rfl) rfl rfl ?_
  intro b61
  refine G.call E14 rfl rfl ⟨_, rfl, rfl, rfl⟩ rfl rfl (FnS.perm (round_val W0 ([(b61, .row [.int .i64 1] 2 1)] :: L) bw g4 4 s16 s17 s18 h6 (by decide) 1 (some ⟨b61, 0, none⟩) 1 [1] (by decide) (Rd.row0 (.next (.next (.next .here)))) true ⟨fun _ => .base (by simp), fun _ => rfl⟩) P4.symm) rfl ?_
  rintro e L2 ⟨rfl, rfl⟩
  first | refine G.pickT rfl trivial rfl rfl rfl rfl ?_ | refine G.pickF rfl trivial rfl rfl rfl rfl ?_
  refine G.assignB rfl trivial rfl rfl rfl ?_
  refine G.nil ?_
  refine C.less (fun _ h => h.tail.tail.tail.tail) ?_
  refine C.ret ?_
  -- end 
  exact ⟨rfl, _, Res.of (rs := [.tmp 0]) rfl rfl, rfl, rfl⟩
theorem wnone_walk : FnS Try.prog W0 6 #[] [] (fun e _ => e = .returned (.bool true)) := by
  refine FnS.of (args := []) Try.func6 rfl rfl ?_
  refine C.seq ?_
  refine C.region ?_
  refine G.assignB rfl trivial rfl rfl rfl ?_
  refine G.nil ?_
  refine C.seq ?_
  refine C.region ?_
  refine G.assignP rfl trivial rfl rfl rfl ?_
  refine G.nil ?_
  refine C.seq ?_
  refine C.region ?_
  refine G.moveP rfl trivial rfl rfl rfl ?_
  refine G.call E12 rfl rfl trivial rfl rfl (clear_nil W0 _ 1) rfl ?_
  rintro e L2 ⟨rfl, rfl⟩
  refine G.nil ?_
  refine C.seq ?_
  refine C.region ?_
  refine G.call E8 rfl rfl trivial rfl rfl (wbegun_spec W0 _) rfl ?_
  rintro e L2 ⟨rfl, rfl⟩
  refine G.moveB rfl trivial rfl rfl rfl ?_
  refine G.moveP rfl ⟨_, rfl, rfl, rfl⟩ rfl rfl rfl ?_
  refine G.buildSliceL (cs := [.int .i64 2]) (zs := [(.int .i64 0)]) rfl ⟨_, rfl, rfl, rfl⟩ rfl rfl Try.underlying30 I2 rfl (by kernel_rfl) rfl rfl ?_
  intro b7
  refine G.call E10 rfl rfl ⟨_, rfl, rfl, rfl⟩ rfl rfl (set_nil W0 _ 1 _) rfl ?_
  rintro e L2 ⟨rfl, rfl⟩
  first | refine G.notD rfl ⟨_, rfl, rfl, rfl⟩ rfl rfl rfl ?_ | refine G.not rfl ⟨_, rfl, rfl, rfl⟩ rfl rfl rfl ?_
  first | refine G.pickT rfl trivial rfl rfl rfl rfl ?_ | refine G.pickF rfl trivial rfl rfl rfl rfl ?_
  refine G.moveB rfl trivial rfl rfl rfl ?_
  refine G.moveP rfl ⟨_, rfl, rfl, rfl⟩ rfl rfl rfl ?_
  refine G.call E17 rfl rfl ⟨_, rfl, rfl, rfl⟩ rfl rfl (on_nil W0 _ 1) rfl ?_
  rintro e L2 ⟨rfl, rfl⟩
  refine G.lenSlice rfl ⟨_, rfl, rfl, rfl⟩ rfl rfl Try.underlying30 rfl ?_
  refine G.bin rfl ⟨_, rfl, rfl, rfl⟩ rfl rfl rfl rfl rfl ?_
  first | refine G.pickT rfl trivial rfl rfl rfl rfl ?_ | refine G.pickF rfl trivial rfl rfl rfl rfl ?_
  refine G.moveB rfl trivial rfl rfl rfl ?_
  refine G.moveP rfl ⟨_, rfl, rfl, rfl⟩ rfl rfl rfl ?_
  refine G.buildSliceL (cs := [.int .i64 1]) (zs := [(.int .i64 0)]) rfl ⟨_, rfl, rfl, rfl⟩ rfl rfl Try.underlying30 I2 rfl (by kernel_rfl) rfl rfl ?_
  intro b19
  refine G.call E14 rfl rfl ⟨_, rfl, rfl, rfl⟩ rfl rfl (round_nil W0 _ 1 _) rfl ?_
  rintro e L2 ⟨rfl, rfl⟩
  first | refine G.notD rfl ⟨_, rfl, rfl, rfl⟩ rfl rfl rfl ?_ | refine G.not rfl ⟨_, rfl, rfl, rfl⟩ rfl rfl rfl ?_
  first | refine G.pickT rfl trivial rfl rfl rfl rfl ?_ | refine G.pickF rfl trivial rfl rfl rfl rfl ?_
  refine G.assignB rfl trivial rfl rfl rfl ?_
  refine G.nil ?_
  refine C.ret ?_
  -- end 
  exact ⟨rfl, _, Res.of (rs := [.tmp 0]) rfl rfl, rfl⟩
end laws
end Go.Proofs.Ytfenbeiengnpbaa
