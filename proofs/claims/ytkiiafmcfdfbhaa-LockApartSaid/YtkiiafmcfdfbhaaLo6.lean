/-
  Locks: the document's answer (engrossref23), walked.
-/
import Derived.Test.YtkiiafmcfdfbhaaLo3
namespace Go.Proofs.Ytkiiafmcfdfbhaa
open Go Go.SL Go.RowKit Go.Sort

theorem memNone {W0 w : World} {L : List Seg} (h : Mem W0 w L) : Mem W0 w [] := h.fewer (by simp)
theorem FnS.read {P : Program} {W0 : World} {f : FuncId} {args : Array Value} {L L1 : List Seg} {Q : Ending → Prop} (h : FnS P W0 f args L1 (fun e L' => L' = L1 ∧ Q e)) (hp : L.flatten.Perm L1.flatten) : FnS P W0 f args L (fun e L' => L' = L ∧ Q e) :=
  (h.perm hp).drop fun e L' ⟨h1, h2⟩ => ⟨L, fun w hw => by subst h1; exact hw.of_flat hp.symm, rfl, h2⟩
theorem map_at {l : List Int} {i : Nat} (h : i < l.length) : (l.map (Value.int .i64))[i]? = some (.int .i64 l[i]!) := by simp [h]
theorem one_at {ls : List One} {i : Nat} (h : i < ls.length) : (ls.flatMap oneC)[0 + (i : Int).toNat * 3 + 0]? = some (.int .i64 ls[i].1) ∧ (ls.flatMap oneC)[0 + (i : Int).toNat * 3 + 1]? = some (.int .i64 ls[i].2.1) ∧ (ls.flatMap oneC)[0 + (i : Int).toNat * 3 + 2]? = some (.string ls[i].2.2) := by
  have hr := row_chunk (rs := []) (f := oneC) (k := 3) (fun _ _ => rfl) h
  rw [List.append_nil] at hr
  exact ⟨hr 0 _ rfl, hr 1 _ rfl, hr 2 _ rfl⟩
/-- a number put into those in order, once -/
def insL : List Int → Int → List Int
  | [], x => [x]
  | y :: ys, x => if y < x then y :: insL ys x else if y = x then y :: ys else x :: y :: ys
theorem insL_eq : ∀ (l : List Int) (x : Int) (i : Nat), i ≤ l.length → (∀ j, j < i → l[j]! < x) → (i < l.length → ¬ l[i]! < x) → insL l x = if i < l.length ∧ l[i]! = x then l else l.take i ++ [x] ++ l.drop i
  | [], x, i, hi, _, _ => by
    obtain rfl : i = 0 := by simpa using hi
    simp [insL]
  | y :: ys, x, 0, _, _, h2 => by
    have h3 := h2 (by simp)
    simp only [List.getElem!_cons_zero] at h3
    unfold insL
    rw [if_neg h3]
    by_cases e : y = x
    · simp [e]
    · simp [e]
  | y :: ys, x, i + 1, hi, h1, h2 => by
    have h3 := h1 0 (by omega)
    simp only [List.getElem!_cons_zero] at h3
    have ih := insL_eq ys x i (by simpa using hi) (fun j hj => by have := h1 (j + 1) (by omega); simpa using this) (fun hlt => by have := h2 (by simpa using hlt); simpa using this)
    unfold insL
    rw [if_pos h3, ih]
    by_cases e : i < ys.length ∧ ys[i]! = x
    · rw [if_pos e, if_pos ⟨by simpa using e.1, by simpa using e.2⟩]
    · rw [if_neg e, if_neg (by rintro ⟨a, b⟩; exact e ⟨by simpa using a, by simpa using b⟩)]
      simp
theorem insL_mem (l : List Int) (x a : Int) : a ∈ insL l x ↔ a = x ∨ a ∈ l := by
  induction l with
  | nil => simp [insL]
  | cons y ys ih =>
    unfold insL
    split
    · simp only [List.mem_cons, ih]
      constructor
      · rintro (h | h | h) <;> simp [h]
      · rintro (h | h | h) <;> simp [h]
    · split
      · rename_i e; subst e; simp
      · simp
theorem insL_rising {l : List Int} (x : Int) (h : l.Pairwise (· < ·)) : (insL l x).Pairwise (· < ·) := by
  induction l with
  | nil => simp [insL]
  | cons y ys ih =>
    rw [List.pairwise_cons] at h
    unfold insL
    split
    · rename_i hy
      refine List.pairwise_cons.2 ⟨fun a ha => ?_, ih h.2⟩
      rcases (insL_mem _ _ _).1 ha with rfl | ha
      · exact hy
      · exact h.1 a ha
    · split
      · exact List.pairwise_cons.2 h
      · rename_i h1 h2
        refine List.pairwise_cons.2 ⟨fun a ha => ?_, List.pairwise_cons.2 h⟩
        rcases List.mem_cons.1 ha with rfl | ha
        · omega
        · have := h.1 a ha; omega
theorem insL_length (l : List Int) (x : Int) : (insL l x).length ≤ l.length + 1 := by
  induction l with
  | nil => simp [insL]
  | cons y ys ih =>
    unfold insL
    split
    · simp; omega
    · split <;> simp
/-- those that are put in one after the other -/
def insAll (l : List Int) : List Int := l.foldl insL []
theorem insAll_snoc (l : List Int) (x : Int) : insAll (l ++ [x]) = insL (insAll l) x := by simp [insAll]
theorem insAll_length : ∀ n (l : List Int), l.length = n → (insAll l).length ≤ n
  | 0, l, h => by rw [List.eq_nil_of_length_eq_zero h]; exact Nat.le_refl _
  | n + 1, l, h => by
    obtain ⟨m, x, rfl⟩ : ∃ m x, l = m ++ [x] := ⟨l.dropLast, l.getLast (by intro e; rw [e] at h; cases h), (List.dropLast_concat_getLast _).symm⟩
    have ih := insAll_length n m (by simpa using h)
    have := insL_length (insAll m) x
    rw [insAll_snoc]
    omega
section ref
variable (W0 : World)
theorem insert_spec (L1 : List Seg) (v : Value) (l : List Int) (so : Seg) (hv : OwnS v l.length (l.map (Value.int .i64)) 2 1 so) (hl : l.length ≤ 1000) (x : Int) :
    FnS Try.prog W0 26 #[v, .int .i64 x] (so :: L1) (fun e L' => ∃ v' so', OwnS v' (insL l x).length ((insL l x).map (Value.int .i64)) 2 1 so' ∧ L' = so' :: L1 ∧ e = .returned v') := by
  obtain ⟨a, c, rfl, hr⟩ := hv.form
  have hcap := hv.cap
  refine FnS.of (args := [.slice a l.length c, .int .i64 x]) Try.func26 rfl rfl ?_
  refine C.seq ?_
  refine C.region ?_
  refine G.assignS rfl trivial rfl rfl rfl ?_
  refine G.nil ?_
  refine C.seq ?_
  refine C.region ?_
  refine G.assignI rfl trivial rfl rfl rfl ?_
  refine G.nil ?_
  refine C.cut (fun F D' L' => ∃ (i : Nat), i ≤ l.length ∧ (∀ j, j < i → l[j]! < x) ∧ (i < l.length → ¬ l[i]! < x) ∧ F 0 = .slice a l.length c ∧ F 1 = .int .i64 x ∧ F 5 = .int .i64 (i : Int) ∧ D' = [] ∧ so :: L1 = L') ?_ ?_
  ·
    refine C.block ?_
    refine C.loop (fun m F D' L' => ∃ (i : Nat), m = l.length - i + 0 ∧ i ≤ l.length ∧ (∀ j, j < i → l[j]! < x) ∧ F 0 = .slice a l.length c ∧ F 1 = .int .i64 x ∧ F 5 = .int .i64 (i : Int) ∧ D' = [] ∧ so :: L1 = L') ⟨_, ⟨0, rfl, Nat.zero_le _, fun j hj => absurd hj (by omega), rfl, rfl, rfl, rfl, rfl⟩⟩ ?_
    rintro m F D' L' ⟨i, rfl, hi, hlo, h0, h1, h5, rfl, rfl⟩
    refine C.fix (d := 0) h0 ?_
    refine C.fix (d := 1) h1 ?_
    refine C.fix (d := 5) h5 ?_
    refine C.seq ?_
    refine C.seq ?_
    refine C.region ?_
    refine G.moveI rfl trivial rfl rfl rfl ?_
    refine G.moveS rfl trivial rfl rfl rfl ?_
    refine G.lenSlice rfl trivial rfl rfl Try.underlying33 rfl ?_
    refine G.bin rfl trivial rfl rfl rfl rfl rfl ?_
    refine G.moveB rfl trivial rfl rfl rfl ?_
    refine G.fork (t := 10) _ rfl ?_ ?_
    · intro hg10
      refine G.moveS rfl ⟨_, rfl, rfl, rfl⟩ rfl rfl rfl ?_
      refine G.moveI rfl ⟨_, rfl, rfl, rfl⟩ rfl rfl rfl ?_
      obtain ⟨bq, cq, kq, hveq, rfl, hq1, hq2⟩ := hv.block (by omega)
      cases hveq
      refine G.idxN rfl ⟨_, rfl, rfl, rfl⟩ rfl rfl Try.underlying33 I2 rfl rfl (by omega) ?_
      refine G.loadAt .here rfl ⟨_, rfl, rfl, rfl⟩ rfl rfl Try.underlying2 rfl rfl (map_at (by omega)) ?_
      refine G.moveI rfl ⟨_, rfl, rfl, rfl⟩ rfl rfl rfl ?_
      refine G.bin rfl ⟨_, rfl, rfl, rfl⟩ rfl rfl rfl rfl rfl ?_
      first | refine G.pickT rfl trivial rfl rfl rfl rfl ?_ | refine G.pickF rfl trivial rfl rfl rfl rfl ?_
      refine G.nil ?_
      refine C.cond _ rfl ?_ ?_
      · intro hc0
        refine C.skip ?_
        refine C.block ?_
        refine C.region ?_
        refine G.moveI rfl trivial rfl rfl rfl ?_
        refine G.addN (j := 1) rfl trivial rfl rfl rfl rfl (by omega) ?_
        refine G.assignI rfl trivial rfl rfl rfl ?_
        refine G.nil ?_
        exact ⟨l.length - (i + 1) + 0, by omega, i + 1, rfl, by omega, fun j hj => by
          rcases Nat.lt_or_ge j i with h | h
          · exact hlo j h
          · obtain rfl : j = i := by omega
            exact hc0, rfl, rfl, rfl, rfl, rfl⟩
      · intro hc0
        refine C.exit ?_
        exact ⟨i, hi, hlo, fun h => by first | exact absurd h (by omega) | assumption, rfl, rfl, rfl, rfl, rfl⟩
    · intro hg10
      refine G.skip rfl rfl rfl rfl rfl rfl ?_
      refine G.skip rfl rfl rfl rfl rfl rfl ?_
      refine G.skip rfl rfl rfl rfl rfl rfl ?_
      refine G.skip rfl rfl rfl rfl rfl rfl ?_
      refine G.skip rfl rfl rfl rfl rfl rfl ?_
      refine G.skip rfl rfl rfl rfl rfl rfl ?_
      first | refine G.pickT rfl trivial rfl rfl rfl rfl ?_ | refine G.pickF rfl trivial rfl rfl rfl rfl ?_
      refine G.nil ?_
      refine C.condF rfl ?_
      refine C.exit ?_
      exact ⟨i, hi, hlo, fun h => by first | exact absurd h (by omega) | assumption, rfl, rfl, rfl, rfl, rfl⟩
  ·
    rintro F D' L' ⟨i, hi, hlo, hhi, h0, h1, h5, rfl, rfl⟩
    refine C.fix (d := 0) h0 ?_
    refine C.fix (d := 1) h1 ?_
    refine C.fix (d := 5) h5 ?_
    have hins := insL_eq l x i hi hlo hhi
    refine C.seq ?_
    refine C.seq ?_
    refine C.region ?_
    refine G.moveI rfl trivial rfl rfl rfl ?_
    refine G.moveS rfl trivial rfl rfl rfl ?_
    refine G.lenSlice rfl trivial rfl rfl Try.underlying33 rfl ?_
    refine G.bin rfl trivial rfl rfl rfl rfl rfl ?_
    refine G.moveB rfl trivial rfl rfl rfl ?_
    refine G.fork (t := 24) _ rfl ?_ ?_
    · intro hg24
      refine G.moveS rfl ⟨_, rfl, rfl, rfl⟩ rfl rfl rfl ?_
      refine G.moveI rfl ⟨_, rfl, rfl, rfl⟩ rfl rfl rfl ?_
      obtain ⟨bq, cq, kq, hveq, rfl, hq1, hq2⟩ := hv.block (by omega)
      cases hveq
      refine G.idxN rfl ⟨_, rfl, rfl, rfl⟩ rfl rfl Try.underlying33 I2 rfl rfl (by omega) ?_
      refine G.loadAt .here rfl ⟨_, rfl, rfl, rfl⟩ rfl rfl Try.underlying2 rfl rfl (map_at (by omega)) ?_
      refine G.moveI rfl ⟨_, rfl, rfl, rfl⟩ rfl rfl rfl ?_
      refine G.bin rfl ⟨_, rfl, rfl, rfl⟩ rfl rfl rfl rfl rfl ?_
      first | refine G.pickT rfl trivial rfl rfl rfl rfl ?_ | refine G.pickF rfl trivial rfl rfl rfl rfl ?_
      refine G.nil ?_
      refine C.cond _ rfl ?_ ?_
      · intro hc1
        refine C.seq ?_
        refine C.region ?_
        refine G.moveS rfl trivial rfl rfl rfl ?_
        refine G.assignS rfl trivial rfl rfl rfl ?_
        refine G.nil ?_
        refine C.ret ?_
        -- end g24Tc1T
        exact ⟨rfl, _, Res.of (rs := [.tmp 4]) rfl rfl, _, _, by rw [hins, if_pos ⟨by omega, hc1⟩]; exact hv, rfl, rfl⟩
      · intro hc1
        refine C.skip ?_
        refine C.seq ?_
        refine C.drawn mixed ([]) [] (fun _ h => memNone h) ?_
        refine GA.pure (i := 0) (fun _ _ _ _ _ h => h) rfl (by kernel_rfl) trivial rfl rfl (Y.moveS rfl rfl) (#[true, false, false, false, false, false, false, false, false, false, false, false]) (by kernel_rfl) ?_
        refine GA.pure (i := 1) (fun _ _ _ _ _ h => h) rfl (by kernel_rfl) trivial rfl rfl (Y.moveI rfl rfl) (#[true, true, false, false, false, false, false, false, false, false, false, false]) (by kernel_rfl) ?_
        refine GA.pure (i := 2) (fun _ _ _ _ _ h => h) rfl (by kernel_rfl) trivial rfl rfl (Y.sliceH rfl Try.underlying33 I2 rfl rfl (by omega)) (#[true, true, true, false, false, false, false, false, false, false, false, false]) (by kernel_rfl) ?_
        refine GA.pure (i := 4) (fun _ _ _ _ _ h => h) rfl (by kernel_rfl) trivial rfl rfl (Y.moveI rfl rfl) (#[true, true, true, false, true, false, false, false, false, false, false, false]) (by kernel_rfl) ?_
        refine GA.pure (i := 7) (fun _ _ _ _ _ h => h) rfl (by kernel_rfl) trivial rfl rfl (Y.moveS rfl rfl) (#[true, true, true, false, true, false, false, true, false, false, false, false]) (by kernel_rfl) ?_
        refine GA.pure (i := 8) (fun _ _ _ _ _ h => h) rfl (by kernel_rfl) trivial rfl rfl (Y.moveI rfl rfl) (#[true, true, true, false, true, false, false, true, true, false, false, false]) (by kernel_rfl) ?_
        refine GA.pure (i := 9) (fun _ _ _ _ _ h => h) rfl (by kernel_rfl) trivial rfl rfl (Y.sliceL rfl Try.underlying33 I2 rfl rfl (by omega)) (#[true, true, true, false, true, false, false, true, true, true, false, false]) (by kernel_rfl) ?_
        refine GA.two (i := 3) (j := 5) (by kernel_rfl) rfl rfl (#[true, true, true, true, true, false, false, true, true, true, false, false]) (#[true, true, true, false, true, true, false, true, true, true, false, false]) (by kernel_rfl) (by kernel_rfl) ?_ ?_
        ·
          refine G.appendNil rfl trivial rfl rfl Try.underlying33 Try.underlying33 I2 rfl (by decide) rfl (by decide) (Rd.take (n := i) (hr W0 L1)) (by simp; omega) (fun v hv => by obtain ⟨z, _, rfl⟩ := List.mem_map.1 (List.mem_of_mem_take hv); rfl) (by omega) ?_
          intro v36 s36 hv36
          obtain ⟨a36, c36, rfl, _⟩ := hv36.form
          refine G.nil ?_
          refine ⟨fun _ _ h => memNone h, ?_⟩
          refine GA.one (i := 5) rfl (by kernel_rfl) (#[true, true, true, true, true, true, false, true, true, true, false, false]) (by kernel_rfl) ?_
          refine G.buildSliceL (cs := [.int .i64 x]) (zs := [(.int .i64 0)]) rfl trivial rfl rfl Try.underlying33 I2 rfl (by kernel_rfl) rfl rfl ?_
          intro b38
          refine G.nil ?_
          refine ⟨fun _ _ h => memNone h, ?_⟩
          refine GA.less (fun _ h => h.perm2) ?_
          refine GA.one (i := 6) rfl (by kernel_rfl) (#[true, true, true, true, true, true, true, true, true, true, false, false]) (by kernel_rfl) ?_
          refine G.append hv36 rfl trivial rfl rfl Try.underlying33 Try.underlying33 I2 rfl (by decide) rfl rfl (by decide) (Rd.row0 (.next .here)) rfl (by simp [cellsOk]) (by omega) ?_
          intro v39 s39 hv39
          obtain ⟨a39, c39, rfl, _⟩ := hv39.form
          refine G.nil ?_
          refine ⟨fun _ _ h => memNone h, ?_⟩
          refine GA.one (i := 10) rfl (by kernel_rfl) (#[true, true, true, true, true, true, true, true, true, true, true, false]) (by kernel_rfl) ?_
          refine G.append hv39 rfl trivial rfl rfl Try.underlying33 Try.underlying33 I2 rfl (by decide) rfl rfl (by decide) ((Rd.cut (hr W0 L1) (n := l.length) (l := i) (sz := 1) (by simp) hcap).cons.cons) (by simp) (fun v hv => by obtain ⟨z, _, rfl⟩ := List.mem_map.1 (List.mem_of_mem_drop hv); rfl) (by omega) ?_
          intro v43 s43 hv43
          obtain ⟨a43, c43, rfl, _⟩ := hv43.form
          refine G.nil ?_
          refine ⟨fun _ _ h => memNone h, ?_⟩
          refine GA.pure (i := 11) (fun _ _ _ _ _ h => h) rfl (by kernel_rfl) trivial rfl rfl (Y.assignS rfl rfl) (#[true, true, true, true, true, true, true, true, true, true, true, true]) (by kernel_rfl) ?_
          refine GA.done (by kernel_rfl) ?_
          refine C.less (fun _ h => h.skip1.skip1) ?_
          refine C.ret ?_
          -- end g24Tc1Fo3
          have hno : ¬ (i < l.length ∧ l[i]! = x) := by first | (rintro ⟨_, h⟩; exact hc1 h) | (rintro ⟨h, _⟩; omega)
          have e1 : (insL l x).length = i + 1 + (l.length - i) := by rw [hins, if_neg hno]; simp; omega
          have e2 : (insL l x).map (Value.int .i64) = (l.map (Value.int .i64)).take i ++ [.int .i64 x] ++ (l.map (Value.int .i64)).drop i := by rw [hins, if_neg hno]; simp [List.map_take, List.map_drop]
          have hf : OwnS (.slice a43 ((i : Int).toNat + 1 + (l.length - (i : Int).toNat)) c43) (insL l x).length ((insL l x).map (Value.int .i64)) 2 1 s43 := by rw [e1, e2]; simpa using hv43
          exact ⟨rfl, _, Res.of (rs := [.tmp 4]) rfl rfl, _, s43, hf, rfl, rfl⟩
        ·
          refine G.buildSliceL (cs := [.int .i64 x]) (zs := [(.int .i64 0)]) rfl trivial rfl rfl Try.underlying33 I2 rfl (by kernel_rfl) rfl rfl ?_
          intro b38
          refine G.nil ?_
          refine ⟨fun _ _ h => memNone h, ?_⟩
          refine GA.one (i := 3) rfl (by kernel_rfl) (#[true, true, true, true, true, true, false, true, true, true, false, false]) (by kernel_rfl) ?_
          refine G.appendNil rfl trivial rfl rfl Try.underlying33 Try.underlying33 I2 rfl (by decide) rfl (by decide) (Rd.take (n := i) (hr W0 L1)).cons (by simp; omega) (fun v hv => by obtain ⟨z, _, rfl⟩ := List.mem_map.1 (List.mem_of_mem_take hv); rfl) (by omega) ?_
          intro v36 s36 hv36
          obtain ⟨a36, c36, rfl, _⟩ := hv36.form
          refine G.nil ?_
          refine ⟨fun _ _ h => memNone h, ?_⟩
          refine GA.one (i := 6) rfl (by kernel_rfl) (#[true, true, true, true, true, true, true, true, true, true, false, false]) (by kernel_rfl) ?_
          refine G.append hv36 rfl trivial rfl rfl Try.underlying33 Try.underlying33 I2 rfl (by decide) rfl rfl (by decide) (Rd.row0 (.next .here)) rfl (by simp [cellsOk]) (by omega) ?_
          intro v39 s39 hv39
          obtain ⟨a39, c39, rfl, _⟩ := hv39.form
          refine G.nil ?_
          refine ⟨fun _ _ h => memNone h, ?_⟩
          refine GA.one (i := 10) rfl (by kernel_rfl) (#[true, true, true, true, true, true, true, true, true, true, true, false]) (by kernel_rfl) ?_
          refine G.append hv39 rfl trivial rfl rfl Try.underlying33 Try.underlying33 I2 rfl (by decide) rfl rfl (by decide) ((Rd.cut (hr W0 L1) (n := l.length) (l := i) (sz := 1) (by simp) hcap).cons.cons) (by simp) (fun v hv => by obtain ⟨z, _, rfl⟩ := List.mem_map.1 (List.mem_of_mem_drop hv); rfl) (by omega) ?_
          intro v43 s43 hv43
          obtain ⟨a43, c43, rfl, _⟩ := hv43.form
          refine G.nil ?_
          refine ⟨fun _ _ h => memNone h, ?_⟩
          refine GA.pure (i := 11) (fun _ _ _ _ _ h => h) rfl (by kernel_rfl) trivial rfl rfl (Y.assignS rfl rfl) (#[true, true, true, true, true, true, true, true, true, true, true, true]) (by kernel_rfl) ?_
          refine GA.done (by kernel_rfl) ?_
          refine C.less (fun _ h => h.skip1.skip1) ?_
          refine C.ret ?_
          -- end g24Tc1Fo5
          have hno : ¬ (i < l.length ∧ l[i]! = x) := by first | (rintro ⟨_, h⟩; exact hc1 h) | (rintro ⟨h, _⟩; omega)
          have e1 : (insL l x).length = i + 1 + (l.length - i) := by rw [hins, if_neg hno]; simp; omega
          have e2 : (insL l x).map (Value.int .i64) = (l.map (Value.int .i64)).take i ++ [.int .i64 x] ++ (l.map (Value.int .i64)).drop i := by rw [hins, if_neg hno]; simp [List.map_take, List.map_drop]
          have hf : OwnS (.slice a43 ((i : Int).toNat + 1 + (l.length - (i : Int).toNat)) c43) (insL l x).length ((insL l x).map (Value.int .i64)) 2 1 s43 := by rw [e1, e2]; simpa using hv43
          exact ⟨rfl, _, Res.of (rs := [.tmp 4]) rfl rfl, _, s43, hf, rfl, rfl⟩
    · intro hg24
      refine G.skip rfl rfl rfl rfl rfl rfl ?_
      refine G.skip rfl rfl rfl rfl rfl rfl ?_
      refine G.skip rfl rfl rfl rfl rfl rfl ?_
      refine G.skip rfl rfl rfl rfl rfl rfl ?_
      refine G.skip rfl rfl rfl rfl rfl rfl ?_
      refine G.skip rfl rfl rfl rfl rfl rfl ?_
      first | refine G.pickT rfl trivial rfl rfl rfl rfl ?_ | refine G.pickF rfl trivial rfl rfl rfl rfl ?_
      refine G.nil ?_
      refine C.condF rfl ?_
      refine C.skip ?_
      refine C.seq ?_
      refine C.drawn mixed ([]) [] (fun _ h => memNone h) ?_
      refine GA.pure (i := 0) (fun _ _ _ _ _ h => h) rfl (by kernel_rfl) trivial rfl rfl (Y.moveS rfl rfl) (#[true, false, false, false, false, false, false, false, false, false, false, false]) (by kernel_rfl) ?_
      refine GA.pure (i := 1) (fun _ _ _ _ _ h => h) rfl (by kernel_rfl) trivial rfl rfl (Y.moveI rfl rfl) (#[true, true, false, false, false, false, false, false, false, false, false, false]) (by kernel_rfl) ?_
      refine GA.pure (i := 2) (fun _ _ _ _ _ h => h) rfl (by kernel_rfl) trivial rfl rfl (Y.sliceH rfl Try.underlying33 I2 rfl rfl (by omega)) (#[true, true, true, false, false, false, false, false, false, false, false, false]) (by kernel_rfl) ?_
      refine GA.pure (i := 4) (fun _ _ _ _ _ h => h) rfl (by kernel_rfl) trivial rfl rfl (Y.moveI rfl rfl) (#[true, true, true, false, true, false, false, false, false, false, false, false]) (by kernel_rfl) ?_
      refine GA.pure (i := 7) (fun _ _ _ _ _ h => h) rfl (by kernel_rfl) trivial rfl rfl (Y.moveS rfl rfl) (#[true, true, true, false, true, false, false, true, false, false, false, false]) (by kernel_rfl) ?_
      refine GA.pure (i := 8) (fun _ _ _ _ _ h => h) rfl (by kernel_rfl) trivial rfl rfl (Y.moveI rfl rfl) (#[true, true, true, false, true, false, false, true, true, false, false, false]) (by kernel_rfl) ?_
      refine GA.pure (i := 9) (fun _ _ _ _ _ h => h) rfl (by kernel_rfl) trivial rfl rfl (Y.sliceL rfl Try.underlying33 I2 rfl rfl (by omega)) (#[true, true, true, false, true, false, false, true, true, true, false, false]) (by kernel_rfl) ?_
      refine GA.two (i := 3) (j := 5) (by kernel_rfl) rfl rfl (#[true, true, true, true, true, false, false, true, true, true, false, false]) (#[true, true, true, false, true, true, false, true, true, true, false, false]) (by kernel_rfl) (by kernel_rfl) ?_ ?_
      ·
        refine G.appendNil rfl trivial rfl rfl Try.underlying33 Try.underlying33 I2 rfl (by decide) rfl (by decide) (Rd.take (n := i) (hr W0 L1)) (by simp; omega) (fun v hv => by obtain ⟨z, _, rfl⟩ := List.mem_map.1 (List.mem_of_mem_take hv); rfl) (by omega) ?_
        intro v36 s36 hv36
        obtain ⟨a36, c36, rfl, _⟩ := hv36.form
        refine G.nil ?_
        refine ⟨fun _ _ h => memNone h, ?_⟩
        refine GA.one (i := 5) rfl (by kernel_rfl) (#[true, true, true, true, true, true, false, true, true, true, false, false]) (by kernel_rfl) ?_
        refine G.buildSliceL (cs := [.int .i64 x]) (zs := [(.int .i64 0)]) rfl trivial rfl rfl Try.underlying33 I2 rfl (by kernel_rfl) rfl rfl ?_
        intro b38
        refine G.nil ?_
        refine ⟨fun _ _ h => memNone h, ?_⟩
        refine GA.less (fun _ h => h.perm2) ?_
        refine GA.one (i := 6) rfl (by kernel_rfl) (#[true, true, true, true, true, true, true, true, true, true, false, false]) (by kernel_rfl) ?_
        refine G.append hv36 rfl trivial rfl rfl Try.underlying33 Try.underlying33 I2 rfl (by decide) rfl rfl (by decide) (Rd.row0 (.next .here)) rfl (by simp [cellsOk]) (by omega) ?_
        intro v39 s39 hv39
        obtain ⟨a39, c39, rfl, _⟩ := hv39.form
        refine G.nil ?_
        refine ⟨fun _ _ h => memNone h, ?_⟩
        refine GA.one (i := 10) rfl (by kernel_rfl) (#[true, true, true, true, true, true, true, true, true, true, true, false]) (by kernel_rfl) ?_
        refine G.append hv39 rfl trivial rfl rfl Try.underlying33 Try.underlying33 I2 rfl (by decide) rfl rfl (by decide) ((Rd.cut (hr W0 L1) (n := l.length) (l := i) (sz := 1) (by simp) hcap).cons.cons) (by simp) (fun v hv => by obtain ⟨z, _, rfl⟩ := List.mem_map.1 (List.mem_of_mem_drop hv); rfl) (by omega) ?_
        intro v43 s43 hv43
        obtain ⟨a43, c43, rfl, _⟩ := hv43.form
        refine G.nil ?_
        refine ⟨fun _ _ h => memNone h, ?_⟩
        refine GA.pure (i := 11) (fun _ _ _ _ _ h => h) rfl (by kernel_rfl) trivial rfl rfl (Y.assignS rfl rfl) (#[true, true, true, true, true, true, true, true, true, true, true, true]) (by kernel_rfl) ?_
        refine GA.done (by kernel_rfl) ?_
        refine C.less (fun _ h => h.skip1.skip1) ?_
        refine C.ret ?_
        -- end g24Fo3
        have hno : ¬ (i < l.length ∧ l[i]! = x) := by first | (rintro ⟨_, h⟩; exact hc1 h) | (rintro ⟨h, _⟩; omega)
        have e1 : (insL l x).length = i + 1 + (l.length - i) := by rw [hins, if_neg hno]; simp; omega
        have e2 : (insL l x).map (Value.int .i64) = (l.map (Value.int .i64)).take i ++ [.int .i64 x] ++ (l.map (Value.int .i64)).drop i := by rw [hins, if_neg hno]; simp [List.map_take, List.map_drop]
        have hf : OwnS (.slice a43 ((i : Int).toNat + 1 + (l.length - (i : Int).toNat)) c43) (insL l x).length ((insL l x).map (Value.int .i64)) 2 1 s43 := by rw [e1, e2]; simpa using hv43
        exact ⟨rfl, _, Res.of (rs := [.tmp 4]) rfl rfl, _, s43, hf, rfl, rfl⟩
      ·
        refine G.buildSliceL (cs := [.int .i64 x]) (zs := [(.int .i64 0)]) rfl trivial rfl rfl Try.underlying33 I2 rfl (by kernel_rfl) rfl rfl ?_
        intro b38
        refine G.nil ?_
        refine ⟨fun _ _ h => memNone h, ?_⟩
        refine GA.one (i := 3) rfl (by kernel_rfl) (#[true, true, true, true, true, true, false, true, true, true, false, false]) (by kernel_rfl) ?_
        refine G.appendNil rfl trivial rfl rfl Try.underlying33 Try.underlying33 I2 rfl (by decide) rfl (by decide) (Rd.take (n := i) (hr W0 L1)).cons (by simp; omega) (fun v hv => by obtain ⟨z, _, rfl⟩ := List.mem_map.1 (List.mem_of_mem_take hv); rfl) (by omega) ?_
        intro v36 s36 hv36
        obtain ⟨a36, c36, rfl, _⟩ := hv36.form
        refine G.nil ?_
        refine ⟨fun _ _ h => memNone h, ?_⟩
        refine GA.one (i := 6) rfl (by kernel_rfl) (#[true, true, true, true, true, true, true, true, true, true, false, false]) (by kernel_rfl) ?_
        refine G.append hv36 rfl trivial rfl rfl Try.underlying33 Try.underlying33 I2 rfl (by decide) rfl rfl (by decide) (Rd.row0 (.next .here)) rfl (by simp [cellsOk]) (by omega) ?_
        intro v39 s39 hv39
        obtain ⟨a39, c39, rfl, _⟩ := hv39.form
        refine G.nil ?_
        refine ⟨fun _ _ h => memNone h, ?_⟩
        refine GA.one (i := 10) rfl (by kernel_rfl) (#[true, true, true, true, true, true, true, true, true, true, true, false]) (by kernel_rfl) ?_
        refine G.append hv39 rfl trivial rfl rfl Try.underlying33 Try.underlying33 I2 rfl (by decide) rfl rfl (by decide) ((Rd.cut (hr W0 L1) (n := l.length) (l := i) (sz := 1) (by simp) hcap).cons.cons) (by simp) (fun v hv => by obtain ⟨z, _, rfl⟩ := List.mem_map.1 (List.mem_of_mem_drop hv); rfl) (by omega) ?_
        intro v43 s43 hv43
        obtain ⟨a43, c43, rfl, _⟩ := hv43.form
        refine G.nil ?_
        refine ⟨fun _ _ h => memNone h, ?_⟩
        refine GA.pure (i := 11) (fun _ _ _ _ _ h => h) rfl (by kernel_rfl) trivial rfl rfl (Y.assignS rfl rfl) (#[true, true, true, true, true, true, true, true, true, true, true, true]) (by kernel_rfl) ?_
        refine GA.done (by kernel_rfl) ?_
        refine C.less (fun _ h => h.skip1.skip1) ?_
        refine C.ret ?_
        -- end g24Fo5
        have hno : ¬ (i < l.length ∧ l[i]! = x) := by first | (rintro ⟨_, h⟩; exact hc1 h) | (rintro ⟨h, _⟩; omega)
        have e1 : (insL l x).length = i + 1 + (l.length - i) := by rw [hins, if_neg hno]; simp; omega
        have e2 : (insL l x).map (Value.int .i64) = (l.map (Value.int .i64)).take i ++ [.int .i64 x] ++ (l.map (Value.int .i64)).drop i := by rw [hins, if_neg hno]; simp [List.map_take, List.map_drop]
        have hf : OwnS (.slice a43 ((i : Int).toNat + 1 + (l.length - (i : Int).toNat)) c43) (insL l x).length ((insL l x).map (Value.int .i64)) 2 1 s43 := by rw [e1, e2]; simpa using hv43
        exact ⟨rfl, _, Res.of (rs := [.tmp 4]) rfl rfl, _, s43, hf, rfl, rfl⟩
end ref
end Go.Proofs.Ytkiiafmcfdfbhaa
