/-
  Sheets: operations that came in; pages told in one way; images compared; slots of one's own.
-/
import Derived.Test.YtgfdghhojnmaoaaSh8
namespace Go.Proofs.Ytgfdghhojnmaoaa
namespace Sht
open Go Go.SL Go.RowKit Go.Deep

/-- kind, page, and bytes: place, room, bytes -/
abbrev SOp := Int × Int × Option Addr × Nat × List UInt8
def sopC (o : SOp) : List Value := [.int .i64 o.1, .int .i64 o.2.1, .slice o.2.2.1 o.2.2.2.2.length o.2.2.2.1]
theorem sopC_ok (o : SOp) : ∀ v ∈ sopC o, cellsOk v = true := by
  intro v hv
  simp only [sopC, List.mem_cons, List.not_mem_nil, or_false] at hv
  rcases hv with rfl | rfl | rfl <;> rfl
def SOk (W : World) (o : SOp) : Prop := o.2.2.2.2.length ≤ o.2.2.2.1 ∧ o.2.2.2.1 ≤ maxLen ∧ (-9223372036854775808 ≤ o.2.1 ∧ o.2.1 ≤ 9223372036854775807) ∧ ∀ L, Rd W L o.2.2.1 (bytesV o.2.2.2.2)
def SOps (W : World) (a : Option Addr) (len cap : Nat) (ls : List SOp) : Prop :=
  len = ls.length ∧ len ≤ cap ∧ cap ≤ maxLen ∧ (∀ L, Rd W L a (ls.flatMap sopC)) ∧ ∀ o ∈ ls, SOk W o
theorem open_sops {H : Type} {enc : TypeId × Value → H} {P : Program} {W : World} {base : Nat} {held : Bool} {t e i0 i1 i2 q : TypeId} {f0 f1 f2 : Field} {fuel len cap : Nat} {a : Option Addr} {x : DataW H × List MemPlace} (ht : P.underlying t = some (.slice e)) (he : P.underlying e = some (.struct #[f0, f1, f2])) (hc : P.cellsOf e = 3)
    (hi : P.underlying i0 = some (.int .i64)) (hci : P.cellsOf i0 = 1) (hi1 : P.underlying i1 = some (.int .i64)) (hci1 : P.cellsOf i1 = 1) (hi2 : P.underlying i2 = some (.slice q)) (hci2 : P.cellsOf i2 = 1) (hq : P.underlying q = some (.int .u8)) (hcq : P.cellsOf q = 1)
    (e0 : f0.type = i0 ∧ f0.offset = 0) (e1 : f1.type = i1 ∧ f1.offset = 1) (e2 : f2.type = i2 ∧ f2.offset = 2)
    (h : DataW.trod enc P W base (fun _ => true) held fuel t [.slice a len cap] = some x) : ∃ ls, SOps W a len cap ls := by
  obtain ⟨ls, h1, h2, h3, h4, h5⟩ := open_structs (α := SOp) sopC (SOk W) ht he (by omega) (fun cs n hlen hf => by
    rw [hc] at hlen
    match cs, hlen with
    | [u, v, s], _ =>
      obtain ⟨y0, hy0⟩ := hf 0 f0 rfl
      obtain ⟨y1, hy1⟩ := hf 1 f1 rfl
      obtain ⟨y2, hy2⟩ := hf 2 f2 rfl
      rw [e0.1, e0.2, hci] at hy0
      rw [e1.1, e1.2, hci1] at hy1
      rw [e2.1, e2.2, hci2] at hy2
      obtain ⟨n0, g0, _, w0⟩ := DataW.trod_int hi hy0
      obtain ⟨n1, g1, _, w1⟩ := DataW.trod_int hi1 hy1
      simp only [List.drop_zero, List.take_succ_cons, List.take_zero, List.cons.injEq, and_true, List.drop_succ_cons] at g0 g1
      subst g0 g1
      rcases ChangeShapes.open_ints hi2 hq hcq hy2 with ⟨hcs, _⟩ | ⟨y, l, c, zs, hcs, _, hl, hm, hz, _, hcell, hwz⟩
      · simp only [List.drop_succ_cons, List.drop_zero, List.take_succ_cons, List.take_zero, List.cons.injEq, and_true] at hcs
        subst hcs
        exact ⟨(n0, n1, none, 0, []), rfl, Nat.le_refl _, by simp, wf_i64 w1, fun L => Rd.nil⟩
      · simp only [List.drop_succ_cons, List.drop_zero, List.take_succ_cons, List.take_zero, List.cons.injEq, and_true] at hcs
        subst hcs
        obtain ⟨xs, h1, h2, h3, h4⟩ := row_bytes (W := W) (a := some y) (len := l) (cap := c) (zs := zs) (.inr ⟨y, rfl, hl, hm, by simpa using hz, hcell, hwz⟩)
        subst h1
        exact ⟨(n0, n1, some y, c, xs), rfl, h2, h3, wf_i64 w1, h4⟩) h
  exact ⟨ls, h1, h2, h3, h4, fun o ho => (h5 o ho).1⟩
theorem cellS {W0 : World} {L : List Seg} {p o : Nat} {ls : List SOp} (r : ∀ L, Rd W0 L (some ⟨p, o, none⟩) (ls.flatMap sopC)) {i : Nat} (h : i < ls.length) (w : World) (hm : Mem W0 w L) : ∀ j v, (sopC ls[i])[j]? = some v → w.cell? ⟨p, o + (i : Int).toNat * 3 + j, none⟩ = some v :=
  Rd.chunk_at r (fun _ _ => rfl) h w hm
theorem Rd.chunkL {W0 : World} {p o k : Nat} {α : Type} {f : α → List Value} {ls : List α} {L : List Seg} (r : Rd W0 L (some ⟨p, o, none⟩) (ls.flatMap f)) (hk : ∀ x ∈ ls, (f x).length = k) {i : Nat} (hi : i < ls.length) (w : World) (hm : Mem W0 w L) : ∀ j v, (f ls[i])[j]? = some v → w.cell? ⟨p, o + (i : Int).toNat * k + j, none⟩ = some v := fun j v hj => by
  have hjk : j < k := by rw [← hk _ (List.getElem_mem hi)]; exact (List.getElem?_eq_some_iff.1 hj).1
  have h1 := chunk_get hk hjk hi
  rw [hj] at h1
  have hlt := (List.getElem?_eq_some_iff.1 h1).1
  have h2 := Rd.cell_at r hlt w hm
  rw [h1] at h2
  rw [Int.toNat_natCast, Nat.mul_comm i k, Nat.add_assoc]
  exact h2
theorem rd_byte {W0 : World} {p o : Nat} {xs : List UInt8} {L : List Seg} (r : Rd W0 L (some ⟨p, o, none⟩) (bytesV xs)) {i : Nat} (hi : i < xs.length) (w : World) (hm : Mem W0 w L) : w.cell? ⟨p, o + (i : Int).toNat * 1, none⟩ = some (.int .u8 (xs[i].toNat : Int)) := by
  have h2 := Rd.cell_at r (j := i) (by rw [bytesV_length]; exact hi) w hm
  rw [bytesV_at hi] at h2
  rw [Int.toNat_natCast, Nat.mul_one]
  exact h2
theorem _root_.Go.SL.GA.skipU {P : Program} {W0 : World} {n : Nat} {SQ : SPost} {F : Nat → Value} {D : List Deferred} {L : List Seg} {ops : Array Oper} {K : List Seg} {T : List Nat} {listed : Array Bool} {fuel : Nat} {i j t : Nat} {o : Oper} {d : Nat} {b : Bool} (hf : NoF SQ) (hi : ops[i]? = some o) (hb : (Region.noSelect ops && Region.free .any ops listed i && (Region.ready .any ops listed).contains i && !T.contains i) = true)
    (hg : o.guard = some (j, b)) (h1 : (ops[j]?).bind (·.dst) = some t) (h2 : Nat.blt t n = true) (h3 : F t = undef) (hd : o.dst = some d) (hn : Nat.blt d n = true) (listed' : Array Bool) (hl : listed.setIfInBounds i true = listed')
    (k : GA P W0 n SQ ops K T fuel listed' (upd F d undef) D L) : GA P W0 n SQ ops K T (fuel + 1) listed F D L := by
  intro a w hs hD hmem hc hk
  simp only [Bool.and_eq_true, Bool.not_eq_true'] at hb
  obtain ⟨⟨⟨e1, e2⟩, e3⟩, e4⟩ := hb
  subst hl
  have hlt : t < a.tmps.size := by rw [hs.size]; exact Nat.le_of_ble_eq_true h2
  have ht := hs.at_ t
  rw [h3] at ht
  have hy : yielded ops a.tmps j = none := by
    unfold yielded
    rw [h1]
    simp only [Option.bind_some]
    simp only [Array.getD, hlt, dif_pos] at ht
    simp only [hlt, getElem?_pos]
    rw [show a.tmps[t] = undef from ht]
    rfl
  have hw : Region.wanted o (yielded ops a.tmps) = false := by
    unfold Region.wanted
    rw [hg]
    simp only [hy]
    first | rfl | (cases b <;> rfl)
  refine anyV_first hi (Region.noSelect_spec e1) (hQ_of hf) e4 (fun _ => True) (fun _ _ _ _ _ => trivial) fuel listed a w (Region.free_spec hi e2) (by simpa using e3) (.inr ⟨hw, rfl⟩) hc hk ?_
  exact k _ w (hs.put hd hn undef) (by rw [put_defers]; exact hD) hmem (closedT_step hc (by simpa using e3)) (fun hh => hk (by rwa [hit_skip e4] at hh))
def ansB : Except Int (List UInt8) → List UInt8
  | .ok b => b
  | .error _ => []
def ansC : Except Int (List UInt8) → Int
  | .ok _ => 0
  | .error c => c
section any
variable (W0 : World) (bs : Nat)
theorem spage_any (L : List Seg) {mg : Int → Option (List UInt8)} {R : Ans} {S s : Seg} (h : ShIs W0 bs mg R S s) (no : Int) (hno : -9223372036854775808 ≤ no ∧ no ≤ 9223372036854775807) :
    FnS Try.prog W0 13 #[ptr bs, .int .i64 no] (s :: L) (fun e L' => ∃ a c so, (∀ W L2, Rd W (so :: L2) a (bytesV (ansB (shR mg R no)))) ∧ L' = so :: s :: L ∧ e = .returned (.tuple #[.slice a (ansB (shR mg R no)).length c, .int .i64 (ansC (shR mg R no))])) := by
  cases hA : shR mg R no with
  | ok xs =>
    refine (spage_val W0 bs L h no hno xs hA _ rfl).drop fun e L' ⟨a, c, so, h1, h2, h3⟩ => ⟨so :: s :: L, fun w hw => by subst h2; exact hw, a, c, so, ?_, rfl, h3⟩
    obtain ⟨a2, c2, he, hr⟩ := h1.form
    cases he
    exact hr
  | error c =>
    exact (spage_bad W0 bs L h no hno c hA).drop fun e L' ⟨h2, h3⟩ => ⟨[] :: s :: L, fun w hw => by subst h2; exact hw.empty, none, 0, [], fun W L2 => Rd.nil, rfl, h3⟩
theorem inner_any (L : List Seg) {mg : Int → Option (List UInt8)} {R R' : Ans} {S s : Seg} (h : ShIs W0 bs mg R' S s) {t : TypeId} {f : FuncId} {x : Value} (hs : Src W0 t f x S R) (no : Int) (hno : -9223372036854775808 ≤ no ∧ no ≤ 9223372036854775807) :
    FnS Try.prog W0 f #[x, .int .i64 no] (s :: L) (fun e L' => ∃ a c so, (∀ W L2, Rd W (so :: L2) a (bytesV (ansB (R no)))) ∧ L' = so :: s :: L ∧ e = .returned (.tuple #[.slice a (ansB (R no)).length c, .int .i64 (ansC (R no))])) := by
  cases hA : R no with
  | ok xs =>
    refine (inner_val W0 bs L h hs no hno xs hA _ rfl).drop fun e L' ⟨a, c, so, h1, h2, h3⟩ => ⟨so :: s :: L, fun w hw => by subst h2; exact hw, a, c, so, ?_, rfl, h3⟩
    obtain ⟨a2, c2, he, hr⟩ := h1.form
    cases he
    exact hr
  | error c =>
    exact (inner_bad W0 bs L h hs no hno c hA).drop fun e L' ⟨h2, h3⟩ => ⟨[] :: s :: L, fun w hw => by subst h2; exact hw.empty, none, 0, [], fun W L2 => Rd.nil, rfl, h3⟩
end any
theorem chg_some {mg : Int → Option (List UInt8)} {R : Ans} {no : Int} {b : List UInt8} (hm : mg no = some b) (h : ansC (R no) ≠ 0 ∨ ansB (R no) ≠ b) : chg1 mg R no = some (no, b) := by
  unfold chg1 ansIs
  rw [hm]
  cases hR : R no with
  | ok x => rw [hR] at h; simp [ansB, ansC] at h ⊢; exact h
  | error c => simp
theorem chg_no {mg : Int → Option (List UInt8)} {R : Ans} {no : Int} {b : List UInt8} (hm : mg no = some b) (hs : ∀ c, R no = .error c → c ≠ 0) (h : ansC (R no) = 0) (h2 : ansB (R no) = b) : chg1 mg R no = none := by
  unfold chg1 ansIs
  rw [hm]
  cases hR : R no with
  | ok x => rw [hR] at h2; simp [ansB] at h2 ⊢; exact h2
  | error c => rw [hR] at h; exact absurd h (hs c hR)
theorem imC_len (e : Im) : (imC e).length = 2 := rfl
/-- images compared -/
theorem eqIms_spec (W0 : World) (L : List Seg) (a b : Option Addr) (c c' n m : Nat) (xs ys : List Im) (hn : xs.length = n) (hm : ys.length = m) (hx : Rd W0 L a (xs.flatMap imC)) (hy : Rd W0 L b (ys.flatMap imC)) (hxb : ∀ e ∈ xs, Rd W0 L (some ⟨e.2.1, 0, none⟩) (bytesV e.2.2.2.2)) (hyb : ∀ e ∈ ys, Rd W0 L (some ⟨e.2.1, 0, none⟩) (bytesV e.2.2.2.2)) (hl : xs.length ≤ 1000000) (he : xs.map imP = ys.map imP) :
    FnS Try.prog W0 15 #[.slice a n c, .slice b m c'] L (fun e L' => L' = L ∧ e = .returned (.bool true)) := by
  subst hn
  have hlen : xs.length = ys.length := by have := congrArg List.length he; simpa using this
  obtain rfl : m = xs.length := by omega
  refine FnS.of (args := [.slice a xs.length c, .slice b xs.length c']) Try.func15 rfl rfl ?_
  refine C.seq ?_
  refine C.region ?_
  refine G.assignB rfl trivial rfl rfl rfl ?_
  refine G.nil ?_
  refine C.seq ?_
  refine C.seq ?_
  refine C.region ?_
  refine G.moveS rfl trivial rfl rfl rfl ?_
  refine G.lenSlice rfl trivial rfl rfl Try.underlying38 rfl ?_
  refine G.moveS rfl trivial rfl rfl rfl ?_
  refine G.lenSlice rfl trivial rfl rfl Try.underlying38 rfl ?_
  refine G.bin rfl trivial rfl rfl rfl rfl rfl ?_
  refine G.nil ?_
  refine C.no rfl (by simp) ?_
  refine C.skip ?_
  refine C.seq ?_
  refine C.seq ?_
  refine C.region ?_
  refine G.assignI rfl trivial rfl rfl rfl ?_
  refine G.nil ?_
  refine C.block ?_
  refine C.loop (fun m F D' L' => ∃ (i : Nat), m = xs.length - i + 0 ∧ i ≤ xs.length ∧ F 0 = .slice a xs.length c ∧ F 1 = .slice b xs.length c' ∧ F 5 = .int .i64 (i : Int) ∧ D' = [] ∧ L = L') ⟨_, ⟨0, rfl, Nat.zero_le _, rfl, rfl, rfl, rfl, rfl⟩⟩ ?_
  rintro m F D' L' ⟨i, rfl, hi, h0, h1, h5, rfl, rfl⟩
  refine C.fix (d := 0) h0 ?_
  refine C.fix (d := 1) h1 ?_
  refine C.fix (d := 5) h5 ?_
  refine C.seq ?_
  refine C.seq ?_
  refine C.region ?_
  refine G.moveI rfl trivial rfl rfl rfl ?_
  refine G.moveS rfl trivial rfl rfl rfl ?_
  refine G.lenSlice rfl trivial rfl rfl Try.underlying38 rfl ?_
  refine G.bin rfl trivial rfl rfl rfl rfl rfl ?_
  refine G.nil ?_
  refine C.cond _ rfl ?_ ?_
  · intro hc1
    have hlt : i < xs.length := by omega
    have hlt2 : i < ys.length := by omega
    obtain ⟨p, o, rfl, _⟩ := hx.some_ (by rw [chunk_length (k := 2) (fun _ _ => rfl)]; omega)
    obtain ⟨p2, o2, rfl, _⟩ := hy.some_ (by rw [chunk_length (k := 2) (fun _ _ => rfl)]; omega)
    have hce := fun w hm => Rd.chunkL (k := 2) hx (fun _ _ => rfl) hlt w hm
    have hce2 := fun w hm => Rd.chunkL (k := 2) hy (fun _ _ => rfl) hlt2 w hm
    have hb1 := hxb _ (List.getElem_mem hlt)
    have hb2 := hyb _ (List.getElem_mem hlt2)
    have hee : imP xs[i] = imP ys[i] := by have h3 := congrArg (fun l => l[i]?) he; simpa [hlt, hlt2] using h3
    generalize xs[i] = e1 at hce hb1 hee
    generalize ys[i] = e2 at hce2 hb2 hee
    obtain ⟨n1, b1, r1, k1, x1⟩ := e1
    obtain ⟨n2, b2, r2, k2, x2⟩ := e2
    simp only [imP, Prod.mk.injEq] at hee
    obtain ⟨rfl, rfl⟩ := hee
    refine C.skip ?_
    refine C.seq ?_
    refine C.block ?_
    refine C.seq ?_
    refine C.drawn mixed (_) [] (fun _ h => h) ?_
    refine GA.pure (i := 0) (fun _ _ _ _ _ h => h) rfl (by kernel_rfl) trivial rfl rfl (Y.moveS rfl rfl) (#[true, false, false, false, false, false, false, false, false, false, false, false, false, false, false, false, false, false, false, false, false, false, false, false, false, false]) (by kernel_rfl) ?_
    refine GA.pure (i := 1) (fun _ _ _ _ _ h => h) rfl (by kernel_rfl) trivial rfl rfl (Y.moveI rfl rfl) (#[true, true, false, false, false, false, false, false, false, false, false, false, false, false, false, false, false, false, false, false, false, false, false, false, false, false]) (by kernel_rfl) ?_
    refine GA.pure (i := 2) (fun _ _ _ _ _ h => h) rfl (by kernel_rfl) trivial rfl rfl (Y.indexAddr rfl Try.underlying38 I40 rfl rfl (by omega)) (#[true, true, true, false, false, false, false, false, false, false, false, false, false, false, false, false, false, false, false, false, false, false, false, false, false, false]) (by kernel_rfl) ?_
    refine GA.pure (i := 3) (fun _ _ _ _ _ h => h) rfl (by kernel_rfl) trivial rfl rfl (Y.fieldAddr rfl Try.underlying40 rfl I3 rfl rfl) (#[true, true, true, true, false, false, false, false, false, false, false, false, false, false, false, false, false, false, false, false, false, false, false, false, false, false]) (by kernel_rfl) ?_
    refine GA.read (i := 4) (fun _ _ _ _ _ h => h) rfl (by kernel_rfl) (by kernel_rfl) trivial rfl rfl (Y.load rfl Try.underlying3 rfl rfl (fun w hm => hce w hm 0 _ rfl)) (#[true, true, true, true, true, false, false, false, false, false, false, false, false, false, false, false, false, false, false, false, false, false, false, false, false, false]) (by kernel_rfl) ?_
    refine GA.pure (i := 5) (fun _ _ _ _ _ h => h) rfl (by kernel_rfl) trivial rfl rfl (Y.moveS rfl rfl) (#[true, true, true, true, true, true, false, false, false, false, false, false, false, false, false, false, false, false, false, false, false, false, false, false, false, false]) (by kernel_rfl) ?_
    refine GA.pure (i := 6) (fun _ _ _ _ _ h => h) rfl (by kernel_rfl) trivial rfl rfl (Y.moveI rfl rfl) (#[true, true, true, true, true, true, true, false, false, false, false, false, false, false, false, false, false, false, false, false, false, false, false, false, false, false]) (by kernel_rfl) ?_
    refine GA.pure (i := 7) (fun _ _ _ _ _ h => h) rfl (by kernel_rfl) trivial rfl rfl (Y.indexAddr rfl Try.underlying38 I40 rfl rfl (by omega)) (#[true, true, true, true, true, true, true, true, false, false, false, false, false, false, false, false, false, false, false, false, false, false, false, false, false, false]) (by kernel_rfl) ?_
    refine GA.pure (i := 8) (fun _ _ _ _ _ h => h) rfl (by kernel_rfl) trivial rfl rfl (Y.fieldAddr rfl Try.underlying40 rfl I3 rfl rfl) (#[true, true, true, true, true, true, true, true, true, false, false, false, false, false, false, false, false, false, false, false, false, false, false, false, false, false]) (by kernel_rfl) ?_
    refine GA.read (i := 9) (fun _ _ _ _ _ h => h) rfl (by kernel_rfl) (by kernel_rfl) trivial rfl rfl (Y.load rfl Try.underlying3 rfl rfl (fun w hm => hce2 w hm 0 _ rfl)) (#[true, true, true, true, true, true, true, true, true, true, false, false, false, false, false, false, false, false, false, false, false, false, false, false, false, false]) (by kernel_rfl) ?_
    refine GA.pure (i := 10) (fun _ _ _ _ _ h => h) rfl (by kernel_rfl) trivial rfl rfl (Y.bin rfl rfl rfl rfl) (#[true, true, true, true, true, true, true, true, true, true, true, false, false, false, false, false, false, false, false, false, false, false, false, false, false, false]) (by kernel_rfl) ?_
    refine GA.pure (i := 11) (fun _ _ _ _ _ h => h) rfl (by kernel_rfl) trivial rfl rfl (Y.moveB rfl rfl) (#[true, true, true, true, true, true, true, true, true, true, true, true, false, false, false, false, false, false, false, false, false, false, false, false, false, false]) (by kernel_rfl) ?_
    refine GA.no (t := 28) rfl (by simp) ?_
    refine GA.pure (i := 12) (fun _ _ _ _ _ h => h) rfl (by kernel_rfl) ⟨_, rfl, rfl, rfl⟩ rfl rfl (Y.moveS rfl rfl) (#[true, true, true, true, true, true, true, true, true, true, true, true, true, false, false, false, false, false, false, false, false, false, false, false, false, false]) (by kernel_rfl) ?_
    refine GA.pure (i := 13) (fun _ _ _ _ _ h => h) rfl (by kernel_rfl) ⟨_, rfl, rfl, rfl⟩ rfl rfl (Y.moveI rfl rfl) (#[true, true, true, true, true, true, true, true, true, true, true, true, true, true, false, false, false, false, false, false, false, false, false, false, false, false]) (by kernel_rfl) ?_
    refine GA.pure (i := 14) (fun _ _ _ _ _ h => h) rfl (by kernel_rfl) ⟨_, rfl, rfl, rfl⟩ rfl rfl (Y.indexAddr rfl Try.underlying38 I40 rfl rfl (by omega)) (#[true, true, true, true, true, true, true, true, true, true, true, true, true, true, true, false, false, false, false, false, false, false, false, false, false, false]) (by kernel_rfl) ?_
    refine GA.pure (i := 15) (fun _ _ _ _ _ h => h) rfl (by kernel_rfl) ⟨_, rfl, rfl, rfl⟩ rfl rfl (Y.fieldAddr rfl Try.underlying40 rfl I22 rfl rfl) (#[true, true, true, true, true, true, true, true, true, true, true, true, true, true, true, true, false, false, false, false, false, false, false, false, false, false]) (by kernel_rfl) ?_
    refine GA.read (i := 16) (fun _ _ _ _ _ h => h) rfl (by kernel_rfl) (by kernel_rfl) ⟨_, rfl, rfl, rfl⟩ rfl rfl (Y.load rfl Try.underlying22 rfl rfl (fun w hm => hce w hm 1 _ rfl)) (#[true, true, true, true, true, true, true, true, true, true, true, true, true, true, true, true, true, false, false, false, false, false, false, false, false, false]) (by kernel_rfl) ?_
    refine GA.read (i := 17) (fun _ _ _ _ _ h => h) rfl (by kernel_rfl) (by kernel_rfl) ⟨_, rfl, rfl, rfl⟩ rfl rfl (Y.bytesStr x1 rfl Try.underlying22 Try.underlying5 Try.underlying9 rfl rfl hb1) (#[true, true, true, true, true, true, true, true, true, true, true, true, true, true, true, true, true, true, false, false, false, false, false, false, false, false]) (by kernel_rfl) ?_
    refine GA.pure (i := 18) (fun _ _ _ _ _ h => h) rfl (by kernel_rfl) ⟨_, rfl, rfl, rfl⟩ rfl rfl (Y.moveS rfl rfl) (#[true, true, true, true, true, true, true, true, true, true, true, true, true, true, true, true, true, true, true, false, false, false, false, false, false, false]) (by kernel_rfl) ?_
    refine GA.pure (i := 19) (fun _ _ _ _ _ h => h) rfl (by kernel_rfl) ⟨_, rfl, rfl, rfl⟩ rfl rfl (Y.moveI rfl rfl) (#[true, true, true, true, true, true, true, true, true, true, true, true, true, true, true, true, true, true, true, true, false, false, false, false, false, false]) (by kernel_rfl) ?_
    refine GA.pure (i := 20) (fun _ _ _ _ _ h => h) rfl (by kernel_rfl) ⟨_, rfl, rfl, rfl⟩ rfl rfl (Y.indexAddr rfl Try.underlying38 I40 rfl rfl (by omega)) (#[true, true, true, true, true, true, true, true, true, true, true, true, true, true, true, true, true, true, true, true, true, false, false, false, false, false]) (by kernel_rfl) ?_
    refine GA.pure (i := 21) (fun _ _ _ _ _ h => h) rfl (by kernel_rfl) ⟨_, rfl, rfl, rfl⟩ rfl rfl (Y.fieldAddr rfl Try.underlying40 rfl I22 rfl rfl) (#[true, true, true, true, true, true, true, true, true, true, true, true, true, true, true, true, true, true, true, true, true, true, false, false, false, false]) (by kernel_rfl) ?_
    refine GA.read (i := 22) (fun _ _ _ _ _ h => h) rfl (by kernel_rfl) (by kernel_rfl) ⟨_, rfl, rfl, rfl⟩ rfl rfl (Y.load rfl Try.underlying22 rfl rfl (fun w hm => hce2 w hm 1 _ rfl)) (#[true, true, true, true, true, true, true, true, true, true, true, true, true, true, true, true, true, true, true, true, true, true, true, false, false, false]) (by kernel_rfl) ?_
    refine GA.read (i := 23) (fun _ _ _ _ _ h => h) rfl (by kernel_rfl) (by kernel_rfl) ⟨_, rfl, rfl, rfl⟩ rfl rfl (Y.bytesStr x1 rfl Try.underlying22 Try.underlying5 Try.underlying9 rfl rfl hb2) (#[true, true, true, true, true, true, true, true, true, true, true, true, true, true, true, true, true, true, true, true, true, true, true, true, false, false]) (by kernel_rfl) ?_
    refine GA.pure (i := 24) (fun _ _ _ _ _ h => h) rfl (by kernel_rfl) ⟨_, rfl, rfl, rfl⟩ rfl rfl (Y.strNe rfl  rfl rfl) (#[true, true, true, true, true, true, true, true, true, true, true, true, true, true, true, true, true, true, true, true, true, true, true, true, true, false]) (by kernel_rfl) ?_
    first | refine GA.pure (i := 25) (fun _ _ _ _ _ h => h) rfl (by kernel_rfl) trivial rfl rfl (Y.pickT rfl rfl rfl) (#[true, true, true, true, true, true, true, true, true, true, true, true, true, true, true, true, true, true, true, true, true, true, true, true, true, true]) (by kernel_rfl) ?_ | refine GA.pure (i := 25) (fun _ _ _ _ _ h => h) rfl (by kernel_rfl) trivial rfl rfl (Y.pickF rfl rfl rfl) (#[true, true, true, true, true, true, true, true, true, true, true, true, true, true, true, true, true, true, true, true, true, true, true, true, true, true]) (by kernel_rfl) ?_
    refine GA.done (by kernel_rfl) ?_
    refine C.no rfl (by simp) ?_
    refine C.skip ?_
    refine C.region ?_
    refine G.moveI rfl trivial rfl rfl rfl ?_
    refine G.addN (j := 1) rfl trivial rfl rfl rfl rfl (by omega) ?_
    refine G.assignI rfl trivial rfl rfl rfl ?_
    refine G.nil ?_
    exact ⟨xs.length - (i + 1) + 0, by omega, i + 1, rfl, by omega, rfl, rfl, rfl, rfl, rfl⟩
  · intro hc1
    refine C.exit ?_
    refine C.seq ?_
    refine C.region ?_
    refine G.assignB rfl trivial rfl rfl rfl ?_
    refine G.nil ?_
    refine C.ret ?_
    -- end c1F
    exact ⟨rfl, _, Res.of (rs := [.tmp 4]) rfl rfl, rfl, rfl⟩
theorem ims_rd {W0 : World} {L : List Seg} {ims : List Im} {e : Im} (h : e ∈ ims) : Rd W0 (ims.map imB :: L) (some ⟨e.2.1, 0, none⟩) (bytesV e.2.2.2.2) := by
  obtain ⟨s, t, rfl⟩ := List.append_of_mem h
  rw [List.map_append, List.map_cons]
  exact Rd.row0 (At.mid (s1 := s.map imB))
abbrev nowSeg (bn : Nat) (ns : List (Option Bpg)) : Seg := (bn, .row (ns.map bslot) 26 96) :: bpool ns
/-- slots of one's own: what was set last -/
def NowIs (ns : List (Option Bpg)) (mg : Int → Option (List UInt8)) : Prop := ns.length = 96 ∧ (∀ e, some e ∈ ns → e.2.2.2.length ≤ e.2.1 ∧ e.2.1 ≤ e.2.2.1 ∧ e.2.2.2.length ≤ 1000000) ∧ ∀ k : Nat, k < 96 → (ns[k]!).map (·.2.2.2) = mg (k : Int)
theorem NowIs.none : NowIs noPages (fun _ => none) := ⟨noPages_length, fun _ he => absurd (List.eq_of_mem_replicate he) (by simp), fun k hk => by
  rw [getElem!_pos _ _ (by rw [noPages_length]; exact hk)]
  unfold noPages
  rw [List.getElem_replicate]
  rfl⟩
theorem NowIs.set {ns : List (Option Bpg)} {mg : Int → Option (List UInt8)} (h : NowIs ns mg) {i : Nat} (hi : i < 96) (e : Bpg) (he : e.2.2.2.length ≤ e.2.1 ∧ e.2.1 ≤ e.2.2.1 ∧ e.2.2.2.length ≤ 1000000) : NowIs (ns.set i (some e)) (setM mg (i : Int) e.2.2.2) := by
  obtain ⟨h1, h2, h3⟩ := h
  refine ⟨by rw [List.length_set, h1], book_caps h2 i he, fun k hk => ?_⟩
  rw [getElem!_pos _ _ (by rw [List.length_set]; omega)]
  unfold setM
  by_cases hki : k = i
  · subst hki
    simp
  · rw [if_neg (by omega), ← h3 k hk, getElem!_pos ns k (by omega), List.getElem_set_ne (by omega)]
theorem slot_at {ns : List (Option Bpg)} {k : Nat} (h : k < ns.length) : (ns.map bslot)[0 + (k : Int).toNat * 1]? = some (bslot ns[k]!) := by simp [h]
theorem pool_put {W0 w : World} {L : List Seg} {r : Nat × SObj} {ps : List (Option Bpg)} {i : Nat} (hi : i < ps.length) (e : Bpg) (h : Mem W0 w ([bblk e] :: (r :: bpool ps) :: L)) : Mem W0 w ((r :: bpool (ps.set i (some e))) :: L) := by
  have hps : ps = ps.take i ++ ps[i] :: ps.drop (i + 1) := by simp
  have hset : ps.set i (some e) = ps.take i ++ some e :: ps.drop (i + 1) := by
    conv => lhs; rw [hps]
    have := set_mid (ps.take i) ps[i] (some e) (ps.drop (i + 1))
    rw [List.length_take, Nat.min_eq_left (by omega)] at this
    exact this
  have hp1 : bpool (ps.set i (some e)) = bpool (ps.take i) ++ bblk e :: bpool (ps.drop (i + 1)) := by rw [hset, bpool_app]; rfl
  have hp0 : ∃ m : Seg, bpool ps = bpool (ps.take i) ++ (m ++ bpool (ps.drop (i + 1))) := by
    cases ho : ps[i] with
    | none => rw [ho] at hps; exact ⟨[], by have h3 := congrArg bpool hps; rw [bpool_app] at h3; exact h3⟩
    | some y => rw [ho] at hps; exact ⟨[bblk y], by have h3 := congrArg bpool hps; rw [bpool_app] at h3; exact h3⟩
  obtain ⟨m, hm⟩ := hp0
  rw [hm] at h
  rw [hp1]
  generalize bpool (ps.take i) = A at h ⊢
  generalize bpool (ps.drop (i + 1)) = B at h ⊢
  have h2 : Mem W0 w ([bblk e] :: (r :: (A ++ B)) :: L) := h.fewer (by
    simp only [List.flatten_cons, List.cons_append, List.append_assoc, List.nil_append]
    exact List.Sublist.cons_cons _ (List.Sublist.cons_cons _ (List.Sublist.append_left (List.sublist_append_right m _) A)))
  exact h2.of_flat (by
    simp only [List.flatten_cons, List.cons_append, List.append_assoc, List.nil_append]
    exact (List.perm_middle (l₁ := r :: A) (a := bblk e) (l₂ := B ++ L.flatten)).symm)
theorem now_put {W0 w : World} {L : List Seg} {bn : Nat} {ns : List (Option Bpg)} {i : Nat} (hi : i < ns.length) (e : Bpg) (h : Mem W0 w ([bblk e] :: ((bn, .row ((ns.map bslot).set i (bslot (some e))) 26 96) :: bpool ns) :: L)) : Mem W0 w (nowSeg bn (ns.set i (some e)) :: L) := by
  rw [← List.map_set] at h
  exact pool_put hi e h
theorem now_rd {W0 : World} {bn : Nat} {ns : List (Option Bpg)} {e : Bpg} (h : some e ∈ ns) (L : List Seg) : Rd W0 (nowSeg bn ns :: L) (some ⟨e.1, 0, none⟩) (bytesV e.2.2.2) := by
  obtain ⟨u, hat⟩ := bpool_at h (bn, .row (ns.map bslot) 26 96) L
  exact Rd.row0 hat
theorem ShIs.rng {W0 : World} {bs : Nat} {mg : Int → Option (List UInt8)} {R : Ans} {S s : Seg} (h : ShIs W0 bs mg R S s) : (∀ k, mg k ≠ none → 0 ≤ k ∧ k ≤ 95) ∧ ∀ k b, mg k = some b → b.length = 256 := by
  obtain ⟨_, _, _, _, hm, _⟩ := h
  exact ⟨hm.rng, hm.size⟩
end Sht
end Go.Proofs.Ytgfdghhojnmaoaa
