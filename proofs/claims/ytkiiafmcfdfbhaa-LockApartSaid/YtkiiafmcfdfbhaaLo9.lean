/-
  Locks: whom they tell of, in two ways the same; operations that came in; a text cut; two lists compared.
-/
import Derived.Test.YtkiiafmcfdfbhaaLo8
namespace Go.Proofs.Ytkiiafmcfdfbhaa
open Go Go.SL Go.RowKit Go.Sort Go.Deep

theorem compact_mem : ∀ n (l : List Int), l.length = n → ∀ a, a ∈ compactL l ↔ a ∈ l
  | 0, l, h, a => by rw [List.eq_nil_of_length_eq_zero h]; simp [compactL]
  | n + 1, l, h, a => by
    obtain ⟨m, x, rfl⟩ : ∃ m x, l = m ++ [x] := ⟨l.dropLast, l.getLast (by intro e; rw [e] at h; cases h), (List.dropLast_concat_getLast _).symm⟩
    have ih := compact_mem n m (by simpa using h)
    rw [compact_snoc]
    unfold cstep
    split
    · rename_i e
      rw [ih]
      rw [compact_last _ _ rfl] at e
      have := List.mem_of_getLast? e
      simp only [List.mem_append, List.mem_singleton]
      exact ⟨.inl, fun h => h.elim id (fun h => by rw [h]; exact this)⟩
    · simp [ih]
theorem compact_up : ∀ n (l : List Int), l.length = n → l.Pairwise (· ≤ ·) → (compactL l).Pairwise (· < ·)
  | 0, l, h, _ => by rw [List.eq_nil_of_length_eq_zero h]; exact List.Pairwise.nil
  | n + 1, l, h, hp => by
    obtain ⟨m, x, rfl⟩ : ∃ m x, l = m ++ [x] := ⟨l.dropLast, l.getLast (by intro e; rw [e] at h; cases h), (List.dropLast_concat_getLast _).symm⟩
    rw [List.pairwise_append] at hp
    have ih := compact_up n m (by simpa using h) hp.1
    rw [compact_snoc]
    unfold cstep
    split
    · exact ih
    · rename_i e
      rw [compact_last _ _ rfl] at e
      rw [List.pairwise_append]
      refine ⟨ih, by simp, fun a ha b hb => ?_⟩
      rw [List.mem_singleton.1 hb]
      have ham := (compact_mem _ m rfl a).1 ha
      have h1 := hp.2.2 a ham x (by simp)
      rcases Int.lt_or_eq_of_le h1 with h2 | h2
      · exact h2
      · exfalso
        apply e
        obtain ⟨m', y, rfl⟩ : ∃ m' y, m = m' ++ [y] := ⟨m.dropLast, m.getLast (by intro e; rw [e] at ham; cases ham), (List.dropLast_concat_getLast _).symm⟩
        rw [last_app]
        have h3 := hp.2.2 y (by simp) x (by simp)
        rw [List.pairwise_append] at hp
        have h4 : a ≤ y := by
          rcases List.mem_append.1 ham with h | h
          · exact hp.1.2.2 a h y (by simp)
          · rw [List.mem_singleton.1 h]; exact Int.le_refl _
        congr 1
        omega
theorem sortL_up (l : List Int) : (sortL l).Pairwise (· ≤ ·) := by
  unfold sortL
  refine (List.pairwise_mergeSort (fun a b c h1 h2 => ?_) (fun a b => ?_) l).imp fun h => of_decide_eq_true h
  · simp at h1 h2 ⊢; omega
  · simp; omega
theorem sortL_mem (l : List Int) (a : Int) : a ∈ sortL l ↔ a ∈ l := by unfold sortL; exact (List.mergeSort_perm l _).mem_iff
theorem rising_one : ∀ (l l' : List Int), l.Pairwise (· < ·) → l'.Pairwise (· < ·) → (∀ a, a ∈ l ↔ a ∈ l') → l = l'
  | [], [], _, _, _ => rfl
  | [], y :: _, _, _, h => by have := (h y).2 (by simp); cases this
  | x :: _, [], _, _, h => by have := (h x).1 (by simp); cases this
  | x :: xs, y :: ys, h1, h2, h => by
    rw [List.pairwise_cons] at h1 h2
    have e : x = y := by
      rcases List.mem_cons.1 ((h x).1 (by simp)) with e | hx
      · exact e
      · rcases List.mem_cons.1 ((h y).2 (by simp)) with e | hy
        · exact e.symm
        · have := h1.1 y hy; have := h2.1 x hx; omega
    subst e
    rw [rising_one xs ys h1.2 h2.2 fun a => ?_]
    constructor
    · intro ha
      have h3 := h1.1 a ha
      rcases List.mem_cons.1 ((h a).1 (by simp [ha])) with e | h4
      · omega
      · exact h4
    · intro ha
      have h3 := h2.1 a ha
      rcases List.mem_cons.1 ((h a).2 (by simp [ha])) with e | h4
      · omega
      · exact h4
theorem insAll_up : ∀ n (l : List Int), l.length = n → (insAll l).Pairwise (· < ·)
  | 0, l, h => by rw [List.eq_nil_of_length_eq_zero h]; exact List.Pairwise.nil
  | n + 1, l, h => by
    obtain ⟨m, x, rfl⟩ : ∃ m x, l = m ++ [x] := ⟨l.dropLast, l.getLast (by intro e; rw [e] at h; cases h), (List.dropLast_concat_getLast _).symm⟩
    rw [insAll_snoc]
    exact insL_rising x (insAll_up n m (by simpa using h))
theorem insAll_mem : ∀ n (l : List Int), l.length = n → ∀ a, a ∈ insAll l ↔ a ∈ l
  | 0, l, h, a => by rw [List.eq_nil_of_length_eq_zero h]; simp [insAll]
  | n + 1, l, h, a => by
    obtain ⟨m, x, rfl⟩ : ∃ m x, l = m ++ [x] := ⟨l.dropLast, l.getLast (by intro e; rw [e] at h; cases h), (List.dropLast_concat_getLast _).symm⟩
    rw [insAll_snoc, insL_mem, insAll_mem n m (by simpa using h)]
    simp [or_comm]
theorem set_same (l : List Int) : compactL (sortL l) = insAll l :=
  rising_one _ _ (compact_up _ _ rfl (sortL_up l)) (insAll_up _ l rfl) fun a => by rw [compact_mem _ _ rfl, sortL_mem, insAll_mem _ _ rfl]
/-! ### What came in -/
/-- kind, mode, transaction, key -/
abbrev LOp := Int × Int × Int × ByteArray
def opC (o : LOp) : List Value := [.int .i64 o.1, .int .i64 o.2.1, .int .i64 o.2.2.1, .string o.2.2.2]
def wfI (n : Int) : Prop := -9223372036854775808 ≤ n ∧ n ≤ 9223372036854775807
def LOps (W : World) (a : Option Addr) (len cap : Nat) (ls : List LOp) : Prop :=
  len = ls.length ∧ len ≤ cap ∧ cap ≤ maxLen ∧ (∀ L, Rd W L a (ls.flatMap opC)) ∧ ∀ o ∈ ls, wfI o.1 ∧ wfI o.2.1 ∧ wfI o.2.2.1 ∧ o.2.2.2.size ≤ maxLen
theorem open_lops {H : Type} {enc : TypeId × Value → H} {P : Program} {W : World} {base : Nat} {held : Bool} {t e i0 i2 i3 : TypeId} {f0 f1 f2 f3 : Field} {fuel len cap : Nat} {a : Option Addr} {x : DataW H × List MemPlace} (ht : P.underlying t = some (.slice e)) (he : P.underlying e = some (.struct #[f0, f1, f2, f3])) (hc : P.cellsOf e = 4)
    (hi : P.underlying i0 = some (.int .i64)) (hci : P.cellsOf i0 = 1) (hi2 : P.underlying i2 = some (.int .i64)) (hci2 : P.cellsOf i2 = 1) (hi3 : P.underlying i3 = some .string) (hci3 : P.cellsOf i3 = 1)
    (e0 : f0.type = i0 ∧ f0.offset = 0) (e1 : f1.type = i0 ∧ f1.offset = 1) (e2 : f2.type = i2 ∧ f2.offset = 2) (e3 : f3.type = i3 ∧ f3.offset = 3)
    (h : DataW.trod enc P W base (fun _ => true) held fuel t [.slice a len cap] = some x) : ∃ ls, LOps W a len cap ls := by
  obtain ⟨ls, h1, h2, h3, h4, h5⟩ := open_structs (α := LOp) opC (fun o => wfI o.1 ∧ wfI o.2.1 ∧ wfI o.2.2.1 ∧ o.2.2.2.size ≤ maxLen) ht he (by omega) (fun cs n hlen hf => by
    rw [hc] at hlen
    match cs, hlen with
    | [u, v, w, s], _ =>
      obtain ⟨y0, hy0⟩ := hf 0 f0 rfl
      obtain ⟨y1, hy1⟩ := hf 1 f1 rfl
      obtain ⟨y2, hy2⟩ := hf 2 f2 rfl
      obtain ⟨y3, hy3⟩ := hf 3 f3 rfl
      rw [e0.1, e0.2, hci] at hy0
      rw [e1.1, e1.2, hci] at hy1
      rw [e2.1, e2.2, hci2] at hy2
      rw [e3.1, e3.2, hci3] at hy3
      obtain ⟨n0, g0, _, w0⟩ := DataW.trod_int hi hy0
      obtain ⟨n1, g1, _, w1⟩ := DataW.trod_int hi hy1
      obtain ⟨n2, g2, _, w2⟩ := DataW.trod_int hi2 hy2
      obtain ⟨n3, g3, _, w3⟩ := DataW.trod_string hi3 hy3
      simp only [List.drop_zero, List.take_succ_cons, List.take_zero, List.cons.injEq, and_true, List.drop_succ_cons] at g0 g1 g2 g3
      subst g0 g1 g2 g3
      exact ⟨(n0, n1, n2, n3), rfl, wf_i64 w0, wf_i64 w1, wf_i64 w2, w3⟩) h
  exact ⟨ls, h1, h2, h3, h4, fun o ho => (h5 o ho).1⟩
theorem rd_at {W0 : World} {L : List Seg} {p o : Nat} {xs : List Int} (hr : Rd W0 L (some ⟨p, o, none⟩) (xs.map (Value.int .i64))) {i : Nat} (h : i < xs.length) (w : World) (hm : Mem W0 w L) : w.cell? ⟨p, o + (i : Int).toNat * 1, none⟩ = some (.int .i64 xs[i]!) := by
  have h1 := Rd.cell_at (j := i) hr (by simpa using h) w hm
  rw [map_at h] at h1
  simpa using h1
section ref
variable (W0 : World) (L : List Seg)
theorem cut_spec (s : ByteArray) (n : Nat) : FnS Try.prog W0 11 #[.string s, .int .i64 (n : Int)] L (fun e L' => L' = L ∧ ∃ s', e = .returned (.string s')) := by
  refine FnS.of (args := [.string s, .int .i64 (n : Int)]) Try.func11 rfl rfl ?_
  refine C.seq ?_
  refine C.region ?_
  refine G.assignT rfl trivial rfl rfl rfl ?_
  refine G.nil ?_
  refine C.seq ?_
  refine C.seq ?_
  refine C.region ?_
  refine G.moveT rfl trivial rfl rfl rfl ?_
  refine G.lenStr rfl trivial rfl rfl Try.underlying9 rfl ?_
  refine G.moveI rfl trivial rfl rfl rfl ?_
  refine G.bin rfl trivial rfl rfl rfl rfl rfl ?_
  refine G.nil ?_
  refine C.cond _ rfl ?_ ?_
  · intro hc0
    refine C.seq ?_
    refine C.region ?_
    refine G.moveT rfl trivial rfl rfl rfl ?_
    refine G.moveI rfl trivial rfl rfl rfl ?_
    refine G.sliceStrH rfl trivial rfl rfl Try.underlying9 rfl rfl (by omega) ?_
    refine G.assignT rfl trivial rfl rfl rfl ?_
    refine G.nil ?_
    refine C.ret ?_
    -- end c0T
    exact ⟨rfl, _, Res.of (rs := [.tmp 4]) rfl rfl, rfl, _, rfl⟩
  · intro hc0
    refine C.skip ?_
    refine C.seq ?_
    refine C.region ?_
    refine G.moveT rfl trivial rfl rfl rfl ?_
    refine G.assignT rfl trivial rfl rfl rfl ?_
    refine G.nil ?_
    refine C.ret ?_
    -- end c0F
    exact ⟨rfl, _, Res.of (rs := [.tmp 4]) rfl rfl, rfl, _, rfl⟩
theorem eqNums_spec (a b : Option Addr) (c c' : Nat) (xs ys : List Int) (hx : Rd W0 L a (xs.map (Value.int .i64))) (hy : Rd W0 L b (ys.map (Value.int .i64))) (hl : xs.length ≤ 1000000) (he : xs = ys) :
    FnS Try.prog W0 14 #[.slice a xs.length c, .slice b ys.length c'] L (fun e L' => L' = L ∧ e = .returned (.bool true)) := by
  subst he
  refine FnS.of (args := [.slice a xs.length c, .slice b xs.length c']) Try.func14 rfl rfl ?_
  refine C.seq ?_
  refine C.region ?_
  refine G.assignB rfl trivial rfl rfl rfl ?_
  refine G.nil ?_
  refine C.seq ?_
  refine C.seq ?_
  refine C.region ?_
  refine G.moveS rfl trivial rfl rfl rfl ?_
  refine G.lenSlice rfl trivial rfl rfl Try.underlying33 rfl ?_
  refine G.moveS rfl trivial rfl rfl rfl ?_
  refine G.lenSlice rfl trivial rfl rfl Try.underlying33 rfl ?_
  refine G.bin rfl trivial rfl rfl rfl rfl rfl ?_
  refine G.nil ?_
  refine C.no rfl (by simp) ?_
  refine C.skip ?_
  refine C.seq ?_
  refine C.seq ?_
  refine C.region ?_
  refine G.assignI rfl trivial rfl rfl rfl ?_
  refine G.nil ?_
  refine C.block ?_
  refine C.loop (fun m F D' L' => ∃ (i : Nat), m = xs.length - i + 0 ∧ i ≤ xs.length ∧ F 0 = .slice a xs.length c ∧ F 1 = .slice b xs.length c' ∧ F 5 = .int .i64 (i : Int) ∧ D' = [] ∧ L = L') ⟨_, ⟨0, rfl, Nat.zero_le _, rfl, rfl, rfl, rfl, rfl⟩⟩ ?_
  rintro m F D' L' ⟨i, rfl, hi, h0, h1, h5, rfl, rfl⟩
  refine C.fix (d := 0) h0 ?_
  refine C.fix (d := 1) h1 ?_
  refine C.fix (d := 5) h5 ?_
  refine C.seq ?_
  refine C.seq ?_
  refine C.region ?_
  refine G.moveI rfl trivial rfl rfl rfl ?_
  refine G.moveS rfl trivial rfl rfl rfl ?_
  refine G.lenSlice rfl trivial rfl rfl Try.underlying33 rfl ?_
  refine G.bin rfl trivial rfl rfl rfl rfl rfl ?_
  refine G.nil ?_
  refine C.cond _ rfl ?_ ?_
  · intro hc1
    have hlt : i < xs.length := by omega
    obtain ⟨p, o, rfl, _⟩ := hx.some_ (by simp; omega)
    obtain ⟨p2, o2, rfl, _⟩ := hy.some_ (by simp; omega)
    refine C.skip ?_
    refine C.seq ?_
    refine C.block ?_
    refine C.seq ?_
    refine C.drawn mixed (_) [] (fun _ h => h) ?_
    refine GA.pure (i := 0) (fun _ _ _ _ _ h => h) rfl (by kernel_rfl) trivial rfl rfl (Y.moveS rfl rfl) (#[true, false, false, false, false, false, false, false, false]) (by kernel_rfl) ?_
    refine GA.pure (i := 1) (fun _ _ _ _ _ h => h) rfl (by kernel_rfl) trivial rfl rfl (Y.moveI rfl rfl) (#[true, true, false, false, false, false, false, false, false]) (by kernel_rfl) ?_
    refine GA.pure (i := 2) (fun _ _ _ _ _ h => h) rfl (by kernel_rfl) trivial rfl rfl (Y.indexAddr rfl Try.underlying33 I2 rfl rfl (by omega)) (#[true, true, true, false, false, false, false, false, false]) (by kernel_rfl) ?_
    refine GA.read (i := 3) (fun _ _ _ _ _ h => h) rfl (by kernel_rfl) (by kernel_rfl) trivial rfl rfl (Y.load rfl Try.underlying2 rfl rfl (rd_at hx hlt)) (#[true, true, true, true, false, false, false, false, false]) (by kernel_rfl) ?_
    refine GA.pure (i := 4) (fun _ _ _ _ _ h => h) rfl (by kernel_rfl) trivial rfl rfl (Y.moveS rfl rfl) (#[true, true, true, true, true, false, false, false, false]) (by kernel_rfl) ?_
    refine GA.pure (i := 5) (fun _ _ _ _ _ h => h) rfl (by kernel_rfl) trivial rfl rfl (Y.moveI rfl rfl) (#[true, true, true, true, true, true, false, false, false]) (by kernel_rfl) ?_
    refine GA.pure (i := 6) (fun _ _ _ _ _ h => h) rfl (by kernel_rfl) trivial rfl rfl (Y.indexAddr rfl Try.underlying33 I2 rfl rfl (by omega)) (#[true, true, true, true, true, true, true, false, false]) (by kernel_rfl) ?_
    refine GA.read (i := 7) (fun _ _ _ _ _ h => h) rfl (by kernel_rfl) (by kernel_rfl) trivial rfl rfl (Y.load rfl Try.underlying2 rfl rfl (rd_at hy hlt)) (#[true, true, true, true, true, true, true, true, false]) (by kernel_rfl) ?_
    refine GA.pure (i := 8) (fun _ _ _ _ _ h => h) rfl (by kernel_rfl) trivial rfl rfl (Y.bin rfl rfl rfl rfl) (#[true, true, true, true, true, true, true, true, true]) (by kernel_rfl) ?_
    refine GA.done (by kernel_rfl) ?_
    refine C.no rfl (by simp) ?_
    refine C.skip ?_
    refine C.region ?_
    refine G.moveI rfl trivial rfl rfl rfl ?_
    refine G.addN (j := 1) rfl trivial rfl rfl rfl rfl (by omega) ?_
    refine G.assignI rfl trivial rfl rfl rfl ?_
    refine G.nil ?_
    exact ⟨xs.length - (i + 1) + 0, by omega, i + 1, rfl, by omega, rfl, rfl, rfl, rfl, rfl⟩
  · intro hc1
    refine C.exit ?_
    refine C.seq ?_
    refine C.region ?_
    refine G.assignB rfl trivial rfl rfl rfl ?_
    refine G.nil ?_
    refine C.ret ?_
    -- end c1F
    exact ⟨rfl, _, Res.of (rs := [.tmp 4]) rfl rfl, rfl, rfl⟩
end ref
end Go.Proofs.Ytkiiafmcfdfbhaa
