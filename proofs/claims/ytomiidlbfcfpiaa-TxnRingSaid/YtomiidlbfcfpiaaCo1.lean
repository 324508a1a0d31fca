/-
  Rows of whole numbers put in order, each once; the document's Insert and in, two rows compared, walked.
-/
import Derived.Test.YtomiidlbfcfpiaaSLT
import Derived.Test.YtomiidlbfcfpiaaSr6
import Derived.Test.YtomiidlbfcfpiaaCo0
namespace Go.Proofs.Ytomiidlbfcfpiaa
open Go Go.SL Go.RowKit Go.Sort

theorem P13 {a b c : Seg} {L : List Seg} : (a :: b :: c :: L).flatten.Perm (a :: c :: b :: L).flatten := ((List.Perm.swap c b L).cons a).flatten
theorem sortL_length (l : List Int) : (sortL l).length = l.length := by unfold sortL; exact List.length_mergeSort _
theorem P51 {a b c d e : Seg} {L : List Seg} : (a :: b :: c :: d :: e :: L).flatten.Perm (b :: c :: d :: e :: a :: L).flatten := (List.perm_append_comm_assoc [a] [b, c, d, e] L).flatten
theorem P22 {a b c d : Seg} {L : List Seg} : (a :: b :: c :: d :: L).flatten.Perm (c :: d :: a :: b :: L).flatten := (List.perm_append_comm_assoc [a, b] [c, d] L).flatten
theorem P32 {x a b c d : Seg} {L : List Seg} : (x :: a :: b :: c :: d :: L).flatten.Perm (c :: d :: x :: a :: b :: L).flatten := (List.perm_append_comm_assoc [x, a, b] [c, d] L).flatten
theorem memNone {W0 w : World} {L : List Seg} (h : Mem W0 w L) : Mem W0 w [] := h.fewer (by simp)
theorem FnS.read {P : Program} {W0 : World} {f : FuncId} {args : Array Value} {L L1 : List Seg} {Q : Ending → Prop} (h : FnS P W0 f args L1 (fun e L' => L' = L1 ∧ Q e)) (hp : L.flatten.Perm L1.flatten) : FnS P W0 f args L (fun e L' => L' = L ∧ Q e) :=
  (h.perm hp).drop fun e L' ⟨h1, h2⟩ => ⟨L, fun w hw => by subst h1; exact hw.of_flat hp.symm, rfl, h2⟩
theorem map_at {l : List Int} {i : Nat} (h : i < l.length) : (l.map (Value.int .i64))[i]? = some (.int .i64 l[i]!) := by simp [h]
/-- a number put into those in order, once -/
def insL : List Int → Int → List Int
  | [], x => [x]
  | y :: ys, x => if y < x then y :: insL ys x else if y = x then y :: ys else x :: y :: ys
theorem insL_eq : ∀ (l : List Int) (x : Int) (i : Nat), i ≤ l.length → (∀ j, j < i → l[j]! < x) → (i < l.length → ¬ l[i]! < x) → insL l x = if i < l.length ∧ l[i]! = x then l else l.take i ++ [x] ++ l.drop i
  | [], x, i, hi, _, _ => by
    obtain rfl : i = 0 := by simpa using hi
    simp [insL]
  | y :: ys, x, 0, _, _, h2 => by
    have h3 := h2 (by simp)
    simp only [List.getElem!_cons_zero] at h3
    unfold insL
    rw [if_neg h3]
    by_cases e : y = x
    · simp [e]
    · simp [e]
  | y :: ys, x, i + 1, hi, h1, h2 => by
    have h3 := h1 0 (by omega)
    simp only [List.getElem!_cons_zero] at h3
    have ih := insL_eq ys x i (by simpa using hi) (fun j hj => by have := h1 (j + 1) (by omega); simpa using this) (fun hlt => by have := h2 (by simpa using hlt); simpa using this)
    unfold insL
    rw [if_pos h3, ih]
    by_cases e : i < ys.length ∧ ys[i]! = x
    · rw [if_pos e, if_pos ⟨by simpa using e.1, by simpa using e.2⟩]
    · rw [if_neg e, if_neg (by rintro ⟨a, b⟩; exact e ⟨by simpa using a, by simpa using b⟩)]
      simp
theorem insL_mem (l : List Int) (x a : Int) : a ∈ insL l x ↔ a = x ∨ a ∈ l := by
  induction l with
  | nil => simp [insL]
  | cons y ys ih =>
    unfold insL
    split
    · simp only [List.mem_cons, ih]
      constructor
      · rintro (h | h | h) <;> simp [h]
      · rintro (h | h | h) <;> simp [h]
    · split
      · rename_i e; subst e; simp
      · simp
theorem insL_rising {l : List Int} (x : Int) (h : l.Pairwise (· < ·)) : (insL l x).Pairwise (· < ·) := by
  induction l with
  | nil => simp [insL]
  | cons y ys ih =>
    rw [List.pairwise_cons] at h
    unfold insL
    split
    · rename_i hy
      refine List.pairwise_cons.2 ⟨fun a ha => ?_, ih h.2⟩
      rcases (insL_mem _ _ _).1 ha with rfl | ha
      · exact hy
      · exact h.1 a ha
    · split
      · exact List.pairwise_cons.2 h
      · rename_i h1 h2
        refine List.pairwise_cons.2 ⟨fun a ha => ?_, List.pairwise_cons.2 h⟩
        rcases List.mem_cons.1 ha with rfl | ha
        · omega
        · have := h.1 a ha; omega
theorem insL_length (l : List Int) (x : Int) : (insL l x).length ≤ l.length + 1 := by
  induction l with
  | nil => simp [insL]
  | cons y ys ih =>
    unfold insL
    split
    · simp; omega
    · split <;> simp
/-- those that are put in one after the other -/
def insAll (l : List Int) : List Int := l.foldl insL []
theorem insAll_snoc (l : List Int) (x : Int) : insAll (l ++ [x]) = insL (insAll l) x := by simp [insAll]
theorem insAll_length : ∀ n (l : List Int), l.length = n → (insAll l).length ≤ n
  | 0, l, h => by rw [List.eq_nil_of_length_eq_zero h]; exact Nat.le_refl _
  | n + 1, l, h => by
    obtain ⟨m, x, rfl⟩ : ∃ m x, l = m ++ [x] := ⟨l.dropLast, l.getLast (by intro e; rw [e] at h; cases h), (List.dropLast_concat_getLast _).symm⟩
    have ih := insAll_length n m (by simpa using h)
    have := insL_length (insAll m) x
    rw [insAll_snoc]
    omega
theorem compact_mem : ∀ n (l : List Int), l.length = n → ∀ a, a ∈ compactL l ↔ a ∈ l
  | 0, l, h, a => by rw [List.eq_nil_of_length_eq_zero h]; simp [compactL]
  | n + 1, l, h, a => by
    obtain ⟨m, x, rfl⟩ : ∃ m x, l = m ++ [x] := ⟨l.dropLast, l.getLast (by intro e; rw [e] at h; cases h), (List.dropLast_concat_getLast _).symm⟩
    have ih := compact_mem n m (by simpa using h)
    rw [compact_snoc]
    unfold cstep
    split
    · rename_i e
      rw [ih]
      rw [compact_last _ _ rfl] at e
      have := List.mem_of_getLast? e
      simp only [List.mem_append, List.mem_singleton]
      exact ⟨.inl, fun h => h.elim id (fun h => by rw [h]; exact this)⟩
    · simp [ih]
theorem compact_up : ∀ n (l : List Int), l.length = n → l.Pairwise (· ≤ ·) → (compactL l).Pairwise (· < ·)
  | 0, l, h, _ => by rw [List.eq_nil_of_length_eq_zero h]; exact List.Pairwise.nil
  | n + 1, l, h, hp => by
    obtain ⟨m, x, rfl⟩ : ∃ m x, l = m ++ [x] := ⟨l.dropLast, l.getLast (by intro e; rw [e] at h; cases h), (List.dropLast_concat_getLast _).symm⟩
    rw [List.pairwise_append] at hp
    have ih := compact_up n m (by simpa using h) hp.1
    rw [compact_snoc]
    unfold cstep
    split
    · exact ih
    · rename_i e
      rw [compact_last _ _ rfl] at e
      rw [List.pairwise_append]
      refine ⟨ih, by simp, fun a ha b hb => ?_⟩
      rw [List.mem_singleton.1 hb]
      have ham := (compact_mem _ m rfl a).1 ha
      have h1 := hp.2.2 a ham x (by simp)
      rcases Int.lt_or_eq_of_le h1 with h2 | h2
      · exact h2
      · exfalso
        apply e
        obtain ⟨m', y, rfl⟩ : ∃ m' y, m = m' ++ [y] := ⟨m.dropLast, m.getLast (by intro e; rw [e] at ham; cases ham), (List.dropLast_concat_getLast _).symm⟩
        rw [last_app]
        have h3 := hp.2.2 y (by simp) x (by simp)
        rw [List.pairwise_append] at hp
        have h4 : a ≤ y := by
          rcases List.mem_append.1 ham with h | h
          · exact hp.1.2.2 a h y (by simp)
          · rw [List.mem_singleton.1 h]; exact Int.le_refl _
        congr 1
        omega
theorem sortL_up (l : List Int) : (sortL l).Pairwise (· ≤ ·) := by
  unfold sortL
  refine (List.pairwise_mergeSort (fun a b c h1 h2 => ?_) (fun a b => ?_) l).imp fun h => of_decide_eq_true h
  · simp at h1 h2 ⊢; omega
  · simp; omega
theorem sortL_mem (l : List Int) (a : Int) : a ∈ sortL l ↔ a ∈ l := by unfold sortL; exact (List.mergeSort_perm l _).mem_iff
theorem rising_one : ∀ (l l' : List Int), l.Pairwise (· < ·) → l'.Pairwise (· < ·) → (∀ a, a ∈ l ↔ a ∈ l') → l = l'
  | [], [], _, _, _ => rfl
  | [], y :: _, _, _, h => by have := (h y).2 (by simp); cases this
  | x :: _, [], _, _, h => by have := (h x).1 (by simp); cases this
  | x :: xs, y :: ys, h1, h2, h => by
    rw [List.pairwise_cons] at h1 h2
    have e : x = y := by
      rcases List.mem_cons.1 ((h x).1 (by simp)) with e | hx
      · exact e
      · rcases List.mem_cons.1 ((h y).2 (by simp)) with e | hy
        · exact e.symm
        · have := h1.1 y hy; have := h2.1 x hx; omega
    subst e
    rw [rising_one xs ys h1.2 h2.2 fun a => ?_]
    constructor
    · intro ha
      have h3 := h1.1 a ha
      rcases List.mem_cons.1 ((h a).1 (by simp [ha])) with e | h4
      · omega
      · exact h4
    · intro ha
      have h3 := h2.1 a ha
      rcases List.mem_cons.1 ((h a).2 (by simp [ha])) with e | h4
      · omega
      · exact h4
theorem insAll_up : ∀ n (l : List Int), l.length = n → (insAll l).Pairwise (· < ·)
  | 0, l, h => by rw [List.eq_nil_of_length_eq_zero h]; exact List.Pairwise.nil
  | n + 1, l, h => by
    obtain ⟨m, x, rfl⟩ : ∃ m x, l = m ++ [x] := ⟨l.dropLast, l.getLast (by intro e; rw [e] at h; cases h), (List.dropLast_concat_getLast _).symm⟩
    rw [insAll_snoc]
    exact insL_rising x (insAll_up n m (by simpa using h))
theorem insAll_mem : ∀ n (l : List Int), l.length = n → ∀ a, a ∈ insAll l ↔ a ∈ l
  | 0, l, h, a => by rw [List.eq_nil_of_length_eq_zero h]; simp [insAll]
  | n + 1, l, h, a => by
    obtain ⟨m, x, rfl⟩ : ∃ m x, l = m ++ [x] := ⟨l.dropLast, l.getLast (by intro e; rw [e] at h; cases h), (List.dropLast_concat_getLast _).symm⟩
    rw [insAll_snoc, insL_mem, insAll_mem n m (by simpa using h)]
    simp [or_comm]
theorem set_same (l : List Int) : compactL (sortL l) = insAll l :=
  rising_one _ _ (compact_up _ _ rfl (sortL_up l)) (insAll_up _ l rfl) fun a => by rw [compact_mem _ _ rfl, sortL_mem, insAll_mem _ _ rfl]
theorem compact_rising : ∀ n (l : List Int), l.length = n → l.Pairwise (· < ·) → compactL l = l
  | 0, l, h, _ => by rw [List.eq_nil_of_length_eq_zero h]; rfl
  | n + 1, l, h, hp => by
    obtain ⟨m, x, rfl⟩ : ∃ m x, l = m ++ [x] := ⟨l.dropLast, l.getLast (by intro e; rw [e] at h; cases h), (List.dropLast_concat_getLast _).symm⟩
    rw [List.pairwise_append] at hp
    rw [compact_snoc, compact_rising n m (by simpa using h) hp.1]
    unfold cstep
    rw [if_neg]
    intro he
    have := hp.2.2 x (List.mem_of_getLast? he) x (by simp)
    omega
theorem sortL_rising {l : List Int} (h : l.Pairwise (· < ·)) : sortL l = l := by
  unfold sortL
  exact List.mergeSort_of_pairwise (h.imp fun h => by simp; omega)
theorem insAll_nil (l : List Int) : (insAll l).length = 0 ↔ l = [] := by
  constructor
  · intro h
    rcases List.eq_nil_or_concat l with e | ⟨m, x, rfl⟩
    · exact e
    · rw [List.concat_eq_append, insAll_snoc] at h
      have : x ∈ insL (insAll m) x := (insL_mem _ _ _).2 (.inl rfl)
      rw [List.eq_nil_of_length_eq_zero h] at this
      cases this
  · rintro rfl; rfl
theorem rd_at {W0 : World} {L : List Seg} {p o : Nat} {xs : List Int} (hr : Rd W0 L (some ⟨p, o, none⟩) (xs.map (Value.int .i64))) {i : Nat} (h : i < xs.length) (w : World) (hm : Mem W0 w L) : w.cell? ⟨p, o + (i : Int).toNat * 1, none⟩ = some (.int .i64 xs[i]!) := by
  have h1 := Rd.cell_at (j := i) hr (by simpa using h) w hm
  rw [map_at h] at h1
  simpa using h1
section ref
variable (W0 : World)
theorem insert_spec (L1 : List Seg) (v : Value) (l : List Int) (so : Seg) (hv : OwnS v l.length (l.map (Value.int .i64)) 2 1 so) (hl : l.length ≤ 1000000) (x : Int) :
    FnS Try.prog W0 25 #[v, .int .i64 x] (so :: L1) (fun e L' => ∃ v' so', OwnS v' (insL l x).length ((insL l x).map (Value.int .i64)) 2 1 so' ∧ L' = so' :: L1 ∧ e = .returned v') := by
  obtain ⟨a, c, rfl, hr⟩ := hv.form
  have hcap := hv.cap
  refine FnS.of (args := [.slice a l.length c, .int .i64 x]) Try.func25 rfl rfl ?_
  refine C.seq ?_
  refine C.region ?_
  refine G.assignS rfl trivial rfl rfl rfl ?_
  refine G.nil ?_
  refine C.seq ?_
  refine C.region ?_
  refine G.assignI rfl trivial rfl rfl rfl ?_
  refine G.nil ?_
  refine C.cut (fun F D' L' => ∃ (i : Nat), i ≤ l.length ∧ (∀ j, j < i → l[j]! < x) ∧ (i < l.length → ¬ l[i]! < x) ∧ F 0 = .slice a l.length c ∧ F 1 = .int .i64 x ∧ F 5 = .int .i64 (i : Int) ∧ D' = [] ∧ so :: L1 = L') ?_ ?_
  ·
    refine C.block ?_
    refine C.loop (fun m F D' L' => ∃ (i : Nat), m = l.length - i + 0 ∧ i ≤ l.length ∧ (∀ j, j < i → l[j]! < x) ∧ F 0 = .slice a l.length c ∧ F 1 = .int .i64 x ∧ F 5 = .int .i64 (i : Int) ∧ D' = [] ∧ so :: L1 = L') ⟨_, ⟨0, rfl, Nat.zero_le _, fun j hj => absurd hj (by omega), rfl, rfl, rfl, rfl, rfl⟩⟩ ?_
    rintro m F D' L' ⟨i, rfl, hi, hlo, h0, h1, h5, rfl, rfl⟩
    refine C.fix (d := 0) h0 ?_
    refine C.fix (d := 1) h1 ?_
    refine C.fix (d := 5) h5 ?_
    refine C.seq ?_
    refine C.seq ?_
    refine C.region ?_
    refine G.moveI rfl trivial rfl rfl rfl ?_
    refine G.moveS rfl trivial rfl rfl rfl ?_
    refine G.lenSlice rfl trivial rfl rfl Try.underlying27 rfl ?_
    refine G.bin rfl trivial rfl rfl rfl rfl rfl ?_
    refine G.moveB rfl trivial rfl rfl rfl ?_
    refine G.fork (t := 10) _ rfl ?_ ?_
    · intro hg10
      refine G.moveS rfl ⟨_, rfl, rfl, rfl⟩ rfl rfl rfl ?_
      refine G.moveI rfl ⟨_, rfl, rfl, rfl⟩ rfl rfl rfl ?_
      obtain ⟨bq, cq, kq, hveq, rfl, hq1, hq2⟩ := hv.block (by omega)
      cases hveq
      refine G.idxN rfl ⟨_, rfl, rfl, rfl⟩ rfl rfl Try.underlying27 I2 rfl rfl (by omega) ?_
      refine G.loadAt .here rfl ⟨_, rfl, rfl, rfl⟩ rfl rfl Try.underlying2 rfl rfl (map_at (by omega)) ?_
      refine G.moveI rfl ⟨_, rfl, rfl, rfl⟩ rfl rfl rfl ?_
      refine G.bin rfl ⟨_, rfl, rfl, rfl⟩ rfl rfl rfl rfl rfl ?_
      first | refine G.pickT rfl trivial rfl rfl rfl rfl ?_ | refine G.pickF rfl trivial rfl rfl rfl rfl ?_
      refine G.nil ?_
      refine C.cond _ rfl ?_ ?_
      · intro hc0
        refine C.skip ?_
        refine C.block ?_
        refine C.region ?_
        refine G.moveI rfl trivial rfl rfl rfl ?_
        refine G.addN (j := 1) rfl trivial rfl rfl rfl rfl (by omega) ?_
        refine G.assignI rfl trivial rfl rfl rfl ?_
        refine G.nil ?_
        exact ⟨l.length - (i + 1) + 0, by omega, i + 1, rfl, by omega, fun j hj => by
          rcases Nat.lt_or_ge j i with h | h
          · exact hlo j h
          · obtain rfl : j = i := by omega
            exact hc0, rfl, rfl, rfl, rfl, rfl⟩
      · intro hc0
        refine C.exit ?_
        exact ⟨i, hi, hlo, fun h => by first | exact absurd h (by omega) | assumption, rfl, rfl, rfl, rfl, rfl⟩
    · intro hg10
      refine G.skip rfl rfl rfl rfl rfl rfl ?_
      refine G.skip rfl rfl rfl rfl rfl rfl ?_
      refine G.skip rfl rfl rfl rfl rfl rfl ?_
      refine G.skip rfl rfl rfl rfl rfl rfl ?_
      refine G.skip rfl rfl rfl rfl rfl rfl ?_
      refine G.skip rfl rfl rfl rfl rfl rfl ?_
      first | refine G.pickT rfl trivial rfl rfl rfl rfl ?_ | refine G.pickF rfl trivial rfl rfl rfl rfl ?_
      refine G.nil ?_
      refine C.condF rfl ?_
      refine C.exit ?_
      exact ⟨i, hi, hlo, fun h => by first | exact absurd h (by omega) | assumption, rfl, rfl, rfl, rfl, rfl⟩
  ·
    rintro F D' L' ⟨i, hi, hlo, hhi, h0, h1, h5, rfl, rfl⟩
    refine C.fix (d := 0) h0 ?_
    refine C.fix (d := 1) h1 ?_
    refine C.fix (d := 5) h5 ?_
    have hins := insL_eq l x i hi hlo hhi
    refine C.seq ?_
    refine C.seq ?_
    refine C.region ?_
    refine G.moveI rfl trivial rfl rfl rfl ?_
    refine G.moveS rfl trivial rfl rfl rfl ?_
    refine G.lenSlice rfl trivial rfl rfl Try.underlying27 rfl ?_
    refine G.bin rfl trivial rfl rfl rfl rfl rfl ?_
    refine G.moveB rfl trivial rfl rfl rfl ?_
    refine G.fork (t := 24) _ rfl ?_ ?_
    · intro hg24
      refine G.moveS rfl ⟨_, rfl, rfl, rfl⟩ rfl rfl rfl ?_
      refine G.moveI rfl ⟨_, rfl, rfl, rfl⟩ rfl rfl rfl ?_
      obtain ⟨bq, cq, kq, hveq, rfl, hq1, hq2⟩ := hv.block (by omega)
      cases hveq
      refine G.idxN rfl ⟨_, rfl, rfl, rfl⟩ rfl rfl Try.underlying27 I2 rfl rfl (by omega) ?_
      refine G.loadAt .here rfl ⟨_, rfl, rfl, rfl⟩ rfl rfl Try.underlying2 rfl rfl (map_at (by omega)) ?_
      refine G.moveI rfl ⟨_, rfl, rfl, rfl⟩ rfl rfl rfl ?_
      refine G.bin rfl ⟨_, rfl, rfl, rfl⟩ rfl rfl rfl rfl rfl ?_
      first | refine G.pickT rfl trivial rfl rfl rfl rfl ?_ | refine G.pickF rfl trivial rfl rfl rfl rfl ?_
      refine G.nil ?_
      refine C.cond _ rfl ?_ ?_
      · intro hc1
        refine C.seq ?_
        refine C.region ?_
        refine G.moveS rfl trivial rfl rfl rfl ?_
        refine G.assignS rfl trivial rfl rfl rfl ?_
        refine G.nil ?_
        refine C.ret ?_
        -- end g24Tc1T
        exact ⟨rfl, _, Res.of (rs := [.tmp 4]) rfl rfl, _, _, by rw [hins, if_pos ⟨by omega, hc1⟩]; exact hv, rfl, rfl⟩
      · intro hc1
        refine C.skip ?_
        refine C.seq ?_
        refine C.drawn mixed ([]) [] (fun _ h => memNone h) ?_
        refine GA.pure (i := 0) (fun _ _ _ _ _ h => h) rfl (by kernel_rfl) trivial rfl rfl (Y.moveS rfl rfl) (#[true, false, false, false, false, false, false, false, false, false, false, false]) (by kernel_rfl) ?_
        refine GA.pure (i := 1) (fun _ _ _ _ _ h => h) rfl (by kernel_rfl) trivial rfl rfl (Y.moveI rfl rfl) (#[true, true, false, false, false, false, false, false, false, false, false, false]) (by kernel_rfl) ?_
        refine GA.pure (i := 2) (fun _ _ _ _ _ h => h) rfl (by kernel_rfl) trivial rfl rfl (Y.sliceH rfl Try.underlying27 I2 rfl rfl (by omega)) (#[true, true, true, false, false, false, false, false, false, false, false, false]) (by kernel_rfl) ?_
        refine GA.pure (i := 4) (fun _ _ _ _ _ h => h) rfl (by kernel_rfl) trivial rfl rfl (Y.moveI rfl rfl) (#[true, true, true, false, true, false, false, false, false, false, false, false]) (by kernel_rfl) ?_
        refine GA.pure (i := 7) (fun _ _ _ _ _ h => h) rfl (by kernel_rfl) trivial rfl rfl (Y.moveS rfl rfl) (#[true, true, true, false, true, false, false, true, false, false, false, false]) (by kernel_rfl) ?_
        refine GA.pure (i := 8) (fun _ _ _ _ _ h => h) rfl (by kernel_rfl) trivial rfl rfl (Y.moveI rfl rfl) (#[true, true, true, false, true, false, false, true, true, false, false, false]) (by kernel_rfl) ?_
        refine GA.pure (i := 9) (fun _ _ _ _ _ h => h) rfl (by kernel_rfl) trivial rfl rfl (Y.sliceL rfl Try.underlying27 I2 rfl rfl (by omega)) (#[true, true, true, false, true, false, false, true, true, true, false, false]) (by kernel_rfl) ?_
        refine GA.two (i := 3) (j := 5) (by kernel_rfl) rfl rfl (#[true, true, true, true, true, false, false, true, true, true, false, false]) (#[true, true, true, false, true, true, false, true, true, true, false, false]) (by kernel_rfl) (by kernel_rfl) ?_ ?_
        ·
          refine G.appendNil rfl trivial rfl rfl Try.underlying27 Try.underlying27 I2 rfl (by decide) rfl (by decide) (Rd.take (n := i) (hr W0 L1)) (by simp; omega) (fun v hv => by obtain ⟨z, _, rfl⟩ := List.mem_map.1 (List.mem_of_mem_take hv); rfl) (by omega) ?_
          intro v36 s36 hv36
          obtain ⟨a36, c36, rfl, _⟩ := hv36.form
          refine G.nil ?_
          refine ⟨fun _ _ h => memNone h, ?_⟩
          refine GA.one (i := 5) rfl (by kernel_rfl) (#[true, true, true, true, true, true, false, true, true, true, false, false]) (by kernel_rfl) ?_
          refine G.buildSliceL (cs := [.int .i64 x]) (zs := [(.int .i64 0)]) rfl trivial rfl rfl Try.underlying27 I2 rfl (by kernel_rfl) rfl rfl ?_
          intro b38
          refine G.nil ?_
          refine ⟨fun _ _ h => memNone h, ?_⟩
          refine GA.less (fun _ h => h.perm2) ?_
          refine GA.one (i := 6) rfl (by kernel_rfl) (#[true, true, true, true, true, true, true, true, true, true, false, false]) (by kernel_rfl) ?_
          refine G.append hv36 rfl trivial rfl rfl Try.underlying27 Try.underlying27 I2 rfl (by decide) rfl rfl (by decide) (Rd.row0 (.next .here)) rfl (by simp [cellsOk]) (by omega) ?_
          intro v39 s39 hv39
          obtain ⟨a39, c39, rfl, _⟩ := hv39.form
          refine G.nil ?_
          refine ⟨fun _ _ h => memNone h, ?_⟩
          refine GA.one (i := 10) rfl (by kernel_rfl) (#[true, true, true, true, true, true, true, true, true, true, true, false]) (by kernel_rfl) ?_
          refine G.append hv39 rfl trivial rfl rfl Try.underlying27 Try.underlying27 I2 rfl (by decide) rfl rfl (by decide) ((Rd.cut (hr W0 L1) (n := l.length) (l := i) (sz := 1) (by simp) hcap).cons.cons) (by simp) (fun v hv => by obtain ⟨z, _, rfl⟩ := List.mem_map.1 (List.mem_of_mem_drop hv); rfl) (by omega) ?_
          intro v43 s43 hv43
          obtain ⟨a43, c43, rfl, _⟩ := hv43.form
          refine G.nil ?_
          refine ⟨fun _ _ h => memNone h, ?_⟩
          refine GA.pure (i := 11) (fun _ _ _ _ _ h => h) rfl (by kernel_rfl) trivial rfl rfl (Y.assignS rfl rfl) (#[true, true, true, true, true, true, true, true, true, true, true, true]) (by kernel_rfl) ?_
          refine GA.done (by kernel_rfl) ?_
          refine C.less (fun _ h => h.skip1.skip1) ?_
          refine C.ret ?_
          -- end g24Tc1Fo3
          have hno : ¬ (i < l.length ∧ l[i]! = x) := by first | (rintro ⟨_, h⟩; exact hc1 h) | (rintro ⟨h, _⟩; omega)
          have e1 : (insL l x).length = i + 1 + (l.length - i) := by rw [hins, if_neg hno]; simp; omega
          have e2 : (insL l x).map (Value.int .i64) = (l.map (Value.int .i64)).take i ++ [.int .i64 x] ++ (l.map (Value.int .i64)).drop i := by rw [hins, if_neg hno]; simp [List.map_take, List.map_drop]
          have hf : OwnS (.slice a43 ((i : Int).toNat + 1 + (l.length - (i : Int).toNat)) c43) (insL l x).length ((insL l x).map (Value.int .i64)) 2 1 s43 := by rw [e1, e2]; simpa using hv43
          exact ⟨rfl, _, Res.of (rs := [.tmp 4]) rfl rfl, _, s43, hf, rfl, rfl⟩
        ·
          refine G.buildSliceL (cs := [.int .i64 x]) (zs := [(.int .i64 0)]) rfl trivial rfl rfl Try.underlying27 I2 rfl (by kernel_rfl) rfl rfl ?_
          intro b38
          refine G.nil ?_
          refine ⟨fun _ _ h => memNone h, ?_⟩
          refine GA.one (i := 3) rfl (by kernel_rfl) (#[true, true, true, true, true, true, false, true, true, true, false, false]) (by kernel_rfl) ?_
          refine G.appendNil rfl trivial rfl rfl Try.underlying27 Try.underlying27 I2 rfl (by decide) rfl (by decide) (Rd.take (n := i) (hr W0 L1)).cons (by simp; omega) (fun v hv => by obtain ⟨z, _, rfl⟩ := List.mem_map.1 (List.mem_of_mem_take hv); rfl) (by omega) ?_
          intro v36 s36 hv36
          obtain ⟨a36, c36, rfl, _⟩ := hv36.form
          refine G.nil ?_
          refine ⟨fun _ _ h => memNone h, ?_⟩
          refine GA.one (i := 6) rfl (by kernel_rfl) (#[true, true, true, true, true, true, true, true, true, true, false, false]) (by kernel_rfl) ?_
          refine G.append hv36 rfl trivial rfl rfl Try.underlying27 Try.underlying27 I2 rfl (by decide) rfl rfl (by decide) (Rd.row0 (.next .here)) rfl (by simp [cellsOk]) (by omega) ?_
          intro v39 s39 hv39
          obtain ⟨a39, c39, rfl, _⟩ := hv39.form
          refine G.nil ?_
          refine ⟨fun _ _ h => memNone h, ?_⟩
          refine GA.one (i := 10) rfl (by kernel_rfl) (#[true, true, true, true, true, true, true, true, true, true, true, false]) (by kernel_rfl) ?_
          refine G.append hv39 rfl trivial rfl rfl Try.underlying27 Try.underlying27 I2 rfl (by decide) rfl rfl (by decide) ((Rd.cut (hr W0 L1) (n := l.length) (l := i) (sz := 1) (by simp) hcap).cons.cons) (by simp) (fun v hv => by obtain ⟨z, _, rfl⟩ := List.mem_map.1 (List.mem_of_mem_drop hv); rfl) (by omega) ?_
          intro v43 s43 hv43
          obtain ⟨a43, c43, rfl, _⟩ := hv43.form
          refine G.nil ?_
          refine ⟨fun _ _ h => memNone h, ?_⟩
          refine GA.pure (i := 11) (fun _ _ _ _ _ h => h) rfl (by kernel_rfl) trivial rfl rfl (Y.assignS rfl rfl) (#[true, true, true, true, true, true, true, true, true, true, true, true]) (by kernel_rfl) ?_
          refine GA.done (by kernel_rfl) ?_
          refine C.less (fun _ h => h.skip1.skip1) ?_
          refine C.ret ?_
          -- end g24Tc1Fo5
          have hno : ¬ (i < l.length ∧ l[i]! = x) := by first | (rintro ⟨_, h⟩; exact hc1 h) | (rintro ⟨h, _⟩; omega)
          have e1 : (insL l x).length = i + 1 + (l.length - i) := by rw [hins, if_neg hno]; simp; omega
          have e2 : (insL l x).map (Value.int .i64) = (l.map (Value.int .i64)).take i ++ [.int .i64 x] ++ (l.map (Value.int .i64)).drop i := by rw [hins, if_neg hno]; simp [List.map_take, List.map_drop]
          have hf : OwnS (.slice a43 ((i : Int).toNat + 1 + (l.length - (i : Int).toNat)) c43) (insL l x).length ((insL l x).map (Value.int .i64)) 2 1 s43 := by rw [e1, e2]; simpa using hv43
          exact ⟨rfl, _, Res.of (rs := [.tmp 4]) rfl rfl, _, s43, hf, rfl, rfl⟩
    · intro hg24
      refine G.skip rfl rfl rfl rfl rfl rfl ?_
      refine G.skip rfl rfl rfl rfl rfl rfl ?_
      refine G.skip rfl rfl rfl rfl rfl rfl ?_
      refine G.skip rfl rfl rfl rfl rfl rfl ?_
      refine G.skip rfl rfl rfl rfl rfl rfl ?_
      refine G.skip rfl rfl rfl rfl rfl rfl ?_
      first | refine G.pickT rfl trivial rfl rfl rfl rfl ?_ | refine G.pickF rfl trivial rfl rfl rfl rfl ?_
      refine G.nil ?_
      refine C.condF rfl ?_
      refine C.skip ?_
      refine C.seq ?_
      refine C.drawn mixed ([]) [] (fun _ h => memNone h) ?_
      refine GA.pure (i := 0) (fun _ _ _ _ _ h => h) rfl (by kernel_rfl) trivial rfl rfl (Y.moveS rfl rfl) (#[true, false, false, false, false, false, false, false, false, false, false, false]) (by kernel_rfl) ?_
      refine GA.pure (i := 1) (fun _ _ _ _ _ h => h) rfl (by kernel_rfl) trivial rfl rfl (Y.moveI rfl rfl) (#[true, true, false, false, false, false, false, false, false, false, false, false]) (by kernel_rfl) ?_
      refine GA.pure (i := 2) (fun _ _ _ _ _ h => h) rfl (by kernel_rfl) trivial rfl rfl (Y.sliceH rfl Try.underlying27 I2 rfl rfl (by omega)) (#[true, true, true, false, false, false, false, false, false, false, false, false]) (by kernel_rfl) ?_
      refine GA.pure (i := 4) (fun _ _ _ _ _ h => h) rfl (by kernel_rfl) trivial rfl rfl (Y.moveI rfl rfl) (#[true, true, true, false, true, false, false, false, false, false, false, false]) (by kernel_rfl) ?_
      refine GA.pure (i := 7) (fun _ _ _ _ _ h => h) rfl (by kernel_rfl) trivial rfl rfl (Y.moveS rfl rfl) (#[true, true, true, false, true, false, false, true, false, false, false, false]) (by kernel_rfl) ?_
      refine GA.pure (i := 8) (fun _ _ _ _ _ h => h) rfl (by kernel_rfl) trivial rfl rfl (Y.moveI rfl rfl) (#[true, true, true, false, true, false, false, true, true, false, false, false]) (by kernel_rfl) ?_
      refine GA.pure (i := 9) (fun _ _ _ _ _ h => h) rfl (by kernel_rfl) trivial rfl rfl (Y.sliceL rfl Try.underlying27 I2 rfl rfl (by omega)) (#[true, true, true, false, true, false, false, true, true, true, false, false]) (by kernel_rfl) ?_
      refine GA.two (i := 3) (j := 5) (by kernel_rfl) rfl rfl (#[true, true, true, true, true, false, false, true, true, true, false, false]) (#[true, true, true, false, true, true, false, true, true, true, false, false]) (by kernel_rfl) (by kernel_rfl) ?_ ?_
      ·
        refine G.appendNil rfl trivial rfl rfl Try.underlying27 Try.underlying27 I2 rfl (by decide) rfl (by decide) (Rd.take (n := i) (hr W0 L1)) (by simp; omega) (fun v hv => by obtain ⟨z, _, rfl⟩ := List.mem_map.1 (List.mem_of_mem_take hv); rfl) (by omega) ?_
        intro v36 s36 hv36
        obtain ⟨a36, c36, rfl, _⟩ := hv36.form
        refine G.nil ?_
        refine ⟨fun _ _ h => memNone h, ?_⟩
        refine GA.one (i := 5) rfl (by kernel_rfl) (#[true, true, true, true, true, true, false, true, true, true, false, false]) (by kernel_rfl) ?_
        refine G.buildSliceL (cs := [.int .i64 x]) (zs := [(.int .i64 0)]) rfl trivial rfl rfl Try.underlying27 I2 rfl (by kernel_rfl) rfl rfl ?_
        intro b38
        refine G.nil ?_
        refine ⟨fun _ _ h => memNone h, ?_⟩
        refine GA.less (fun _ h => h.perm2) ?_
        refine GA.one (i := 6) rfl (by kernel_rfl) (#[true, true, true, true, true, true, true, true, true, true, false, false]) (by kernel_rfl) ?_
        refine G.append hv36 rfl trivial rfl rfl Try.underlying27 Try.underlying27 I2 rfl (by decide) rfl rfl (by decide) (Rd.row0 (.next .here)) rfl (by simp [cellsOk]) (by omega) ?_
        intro v39 s39 hv39
        obtain ⟨a39, c39, rfl, _⟩ := hv39.form
        refine G.nil ?_
        refine ⟨fun _ _ h => memNone h, ?_⟩
        refine GA.one (i := 10) rfl (by kernel_rfl) (#[true, true, true, true, true, true, true, true, true, true, true, false]) (by kernel_rfl) ?_
        refine G.append hv39 rfl trivial rfl rfl Try.underlying27 Try.underlying27 I2 rfl (by decide) rfl rfl (by decide) ((Rd.cut (hr W0 L1) (n := l.length) (l := i) (sz := 1) (by simp) hcap).cons.cons) (by simp) (fun v hv => by obtain ⟨z, _, rfl⟩ := List.mem_map.1 (List.mem_of_mem_drop hv); rfl) (by omega) ?_
        intro v43 s43 hv43
        obtain ⟨a43, c43, rfl, _⟩ := hv43.form
        refine G.nil ?_
        refine ⟨fun _ _ h => memNone h, ?_⟩
        refine GA.pure (i := 11) (fun _ _ _ _ _ h => h) rfl (by kernel_rfl) trivial rfl rfl (Y.assignS rfl rfl) (#[true, true, true, true, true, true, true, true, true, true, true, true]) (by kernel_rfl) ?_
        refine GA.done (by kernel_rfl) ?_
        refine C.less (fun _ h => h.skip1.skip1) ?_
        refine C.ret ?_
        -- end g24Fo3
        have hno : ¬ (i < l.length ∧ l[i]! = x) := by first | (rintro ⟨_, h⟩; exact hc1 h) | (rintro ⟨h, _⟩; omega)
        have e1 : (insL l x).length = i + 1 + (l.length - i) := by rw [hins, if_neg hno]; simp; omega
        have e2 : (insL l x).map (Value.int .i64) = (l.map (Value.int .i64)).take i ++ [.int .i64 x] ++ (l.map (Value.int .i64)).drop i := by rw [hins, if_neg hno]; simp [List.map_take, List.map_drop]
        have hf : OwnS (.slice a43 ((i : Int).toNat + 1 + (l.length - (i : Int).toNat)) c43) (insL l x).length ((insL l x).map (Value.int .i64)) 2 1 s43 := by rw [e1, e2]; simpa using hv43
        exact ⟨rfl, _, Res.of (rs := [.tmp 4]) rfl rfl, _, s43, hf, rfl, rfl⟩
      ·
        refine G.buildSliceL (cs := [.int .i64 x]) (zs := [(.int .i64 0)]) rfl trivial rfl rfl Try.underlying27 I2 rfl (by kernel_rfl) rfl rfl ?_
        intro b38
        refine G.nil ?_
        refine ⟨fun _ _ h => memNone h, ?_⟩
        refine GA.one (i := 3) rfl (by kernel_rfl) (#[true, true, true, true, true, true, false, true, true, true, false, false]) (by kernel_rfl) ?_
        refine G.appendNil rfl trivial rfl rfl Try.underlying27 Try.underlying27 I2 rfl (by decide) rfl (by decide) (Rd.take (n := i) (hr W0 L1)).cons (by simp; omega) (fun v hv => by obtain ⟨z, _, rfl⟩ := List.mem_map.1 (List.mem_of_mem_take hv); rfl) (by omega) ?_
        intro v36 s36 hv36
        obtain ⟨a36, c36, rfl, _⟩ := hv36.form
        refine G.nil ?_
        refine ⟨fun _ _ h => memNone h, ?_⟩
        refine GA.one (i := 6) rfl (by kernel_rfl) (#[true, true, true, true, true, true, true, true, true, true, false, false]) (by kernel_rfl) ?_
        refine G.append hv36 rfl trivial rfl rfl Try.underlying27 Try.underlying27 I2 rfl (by decide) rfl rfl (by decide) (Rd.row0 (.next .here)) rfl (by simp [cellsOk]) (by omega) ?_
        intro v39 s39 hv39
        obtain ⟨a39, c39, rfl, _⟩ := hv39.form
        refine G.nil ?_
        refine ⟨fun _ _ h => memNone h, ?_⟩
        refine GA.one (i := 10) rfl (by kernel_rfl) (#[true, true, true, true, true, true, true, true, true, true, true, false]) (by kernel_rfl) ?_
        refine G.append hv39 rfl trivial rfl rfl Try.underlying27 Try.underlying27 I2 rfl (by decide) rfl rfl (by decide) ((Rd.cut (hr W0 L1) (n := l.length) (l := i) (sz := 1) (by simp) hcap).cons.cons) (by simp) (fun v hv => by obtain ⟨z, _, rfl⟩ := List.mem_map.1 (List.mem_of_mem_drop hv); rfl) (by omega) ?_
        intro v43 s43 hv43
        obtain ⟨a43, c43, rfl, _⟩ := hv43.form
        refine G.nil ?_
        refine ⟨fun _ _ h => memNone h, ?_⟩
        refine GA.pure (i := 11) (fun _ _ _ _ _ h => h) rfl (by kernel_rfl) trivial rfl rfl (Y.assignS rfl rfl) (#[true, true, true, true, true, true, true, true, true, true, true, true]) (by kernel_rfl) ?_
        refine GA.done (by kernel_rfl) ?_
        refine C.less (fun _ h => h.skip1.skip1) ?_
        refine C.ret ?_
        -- end g24Fo5
        have hno : ¬ (i < l.length ∧ l[i]! = x) := by first | (rintro ⟨_, h⟩; exact hc1 h) | (rintro ⟨h, _⟩; omega)
        have e1 : (insL l x).length = i + 1 + (l.length - i) := by rw [hins, if_neg hno]; simp; omega
        have e2 : (insL l x).map (Value.int .i64) = (l.map (Value.int .i64)).take i ++ [.int .i64 x] ++ (l.map (Value.int .i64)).drop i := by rw [hins, if_neg hno]; simp [List.map_take, List.map_drop]
        have hf : OwnS (.slice a43 ((i : Int).toNat + 1 + (l.length - (i : Int).toNat)) c43) (insL l x).length ((insL l x).map (Value.int .i64)) 2 1 s43 := by rw [e1, e2]; simpa using hv43
        exact ⟨rfl, _, Res.of (rs := [.tmp 4]) rfl rfl, _, s43, hf, rfl, rfl⟩
section eq
variable (L : List Seg)
theorem eqNums_spec (a b : Option Addr) (c c' : Nat) (xs ys : List Int) (hx : Rd W0 L a (xs.map (Value.int .i64))) (hy : Rd W0 L b (ys.map (Value.int .i64))) (hl : xs.length ≤ 1000000) (he : xs = ys) :
    FnS Try.prog W0 17 #[.slice a xs.length c, .slice b ys.length c'] L (fun e L' => L' = L ∧ e = .returned (.bool true)) := by
  subst he
  refine FnS.of (args := [.slice a xs.length c, .slice b xs.length c']) Try.func17 rfl rfl ?_
  refine C.seq ?_
  refine C.region ?_
  refine G.assignB rfl trivial rfl rfl rfl ?_
  refine G.nil ?_
  refine C.seq ?_
  refine C.seq ?_
  refine C.region ?_
  refine G.moveS rfl trivial rfl rfl rfl ?_
  refine G.lenSlice rfl trivial rfl rfl Try.underlying27 rfl ?_
  refine G.moveS rfl trivial rfl rfl rfl ?_
  refine G.lenSlice rfl trivial rfl rfl Try.underlying27 rfl ?_
  refine G.bin rfl trivial rfl rfl rfl rfl rfl ?_
  refine G.nil ?_
  refine C.no rfl (by simp) ?_
  refine C.skip ?_
  refine C.seq ?_
  refine C.seq ?_
  refine C.region ?_
  refine G.assignI rfl trivial rfl rfl rfl ?_
  refine G.nil ?_
  refine C.block ?_
  refine C.loop (fun m F D' L' => ∃ (i : Nat), m = xs.length - i + 0 ∧ i ≤ xs.length ∧ F 0 = .slice a xs.length c ∧ F 1 = .slice b xs.length c' ∧ F 5 = .int .i64 (i : Int) ∧ D' = [] ∧ L = L') ⟨_, ⟨0, rfl, Nat.zero_le _, rfl, rfl, rfl, rfl, rfl⟩⟩ ?_
  rintro m F D' L' ⟨i, rfl, hi, h0, h1, h5, rfl, rfl⟩
  refine C.fix (d := 0) h0 ?_
  refine C.fix (d := 1) h1 ?_
  refine C.fix (d := 5) h5 ?_
  refine C.seq ?_
  refine C.seq ?_
  refine C.region ?_
  refine G.moveI rfl trivial rfl rfl rfl ?_
  refine G.moveS rfl trivial rfl rfl rfl ?_
  refine G.lenSlice rfl trivial rfl rfl Try.underlying27 rfl ?_
  refine G.bin rfl trivial rfl rfl rfl rfl rfl ?_
  refine G.nil ?_
  refine C.cond _ rfl ?_ ?_
  · intro hc1
    have hlt : i < xs.length := by omega
    obtain ⟨p, o, rfl, _⟩ := hx.some_ (by simp; omega)
    obtain ⟨p2, o2, rfl, _⟩ := hy.some_ (by simp; omega)
    refine C.skip ?_
    refine C.seq ?_
    refine C.block ?_
    refine C.seq ?_
    refine C.drawn mixed (_) [] (fun _ h => h) ?_
    refine GA.pure (i := 0) (fun _ _ _ _ _ h => h) rfl (by kernel_rfl) trivial rfl rfl (Y.moveS rfl rfl) (#[true, false, false, false, false, false, false, false, false]) (by kernel_rfl) ?_
    refine GA.pure (i := 1) (fun _ _ _ _ _ h => h) rfl (by kernel_rfl) trivial rfl rfl (Y.moveI rfl rfl) (#[true, true, false, false, false, false, false, false, false]) (by kernel_rfl) ?_
    refine GA.pure (i := 2) (fun _ _ _ _ _ h => h) rfl (by kernel_rfl) trivial rfl rfl (Y.indexAddr rfl Try.underlying27 I2 rfl rfl (by omega)) (#[true, true, true, false, false, false, false, false, false]) (by kernel_rfl) ?_
    refine GA.read (i := 3) (fun _ _ _ _ _ h => h) rfl (by kernel_rfl) (by kernel_rfl) trivial rfl rfl (Y.load rfl Try.underlying2 rfl rfl (rd_at hx hlt)) (#[true, true, true, true, false, false, false, false, false]) (by kernel_rfl) ?_
    refine GA.pure (i := 4) (fun _ _ _ _ _ h => h) rfl (by kernel_rfl) trivial rfl rfl (Y.moveS rfl rfl) (#[true, true, true, true, true, false, false, false, false]) (by kernel_rfl) ?_
    refine GA.pure (i := 5) (fun _ _ _ _ _ h => h) rfl (by kernel_rfl) trivial rfl rfl (Y.moveI rfl rfl) (#[true, true, true, true, true, true, false, false, false]) (by kernel_rfl) ?_
    refine GA.pure (i := 6) (fun _ _ _ _ _ h => h) rfl (by kernel_rfl) trivial rfl rfl (Y.indexAddr rfl Try.underlying27 I2 rfl rfl (by omega)) (#[true, true, true, true, true, true, true, false, false]) (by kernel_rfl) ?_
    refine GA.read (i := 7) (fun _ _ _ _ _ h => h) rfl (by kernel_rfl) (by kernel_rfl) trivial rfl rfl (Y.load rfl Try.underlying2 rfl rfl (rd_at hy hlt)) (#[true, true, true, true, true, true, true, true, false]) (by kernel_rfl) ?_
    refine GA.pure (i := 8) (fun _ _ _ _ _ h => h) rfl (by kernel_rfl) trivial rfl rfl (Y.bin rfl rfl rfl rfl) (#[true, true, true, true, true, true, true, true, true]) (by kernel_rfl) ?_
    refine GA.done (by kernel_rfl) ?_
    refine C.no rfl (by simp) ?_
    refine C.skip ?_
    refine C.region ?_
    refine G.moveI rfl trivial rfl rfl rfl ?_
    refine G.addN (j := 1) rfl trivial rfl rfl rfl rfl (by omega) ?_
    refine G.assignI rfl trivial rfl rfl rfl ?_
    refine G.nil ?_
    exact ⟨xs.length - (i + 1) + 0, by omega, i + 1, rfl, by omega, rfl, rfl, rfl, rfl, rfl⟩
  · intro hc1
    refine C.exit ?_
    refine C.seq ?_
    refine C.region ?_
    refine G.assignB rfl trivial rfl rfl rfl ?_
    refine G.nil ?_
    refine C.ret ?_
    -- end c1F
    exact ⟨rfl, _, Res.of (rs := [.tmp 4]) rfl rfl, rfl, rfl⟩
theorem in_spec (a : Option Addr) (c : Nat) (xs : List Int) (hx : Rd W0 L a (xs.map (Value.int .i64))) (hl : xs.length ≤ 1000000) (x : Int) :
    FnS Try.prog W0 24 #[.slice a xs.length c, .int .i64 x] L (fun e L' => L' = L ∧ e = .returned (.bool (decide (x ∈ xs)))) := by
  refine FnS.of (args := [.slice a xs.length c, .int .i64 x]) Try.func24 rfl rfl ?_
  refine C.seq ?_
  refine C.region ?_
  refine G.assignB rfl trivial rfl rfl rfl ?_
  refine G.nil ?_
  refine C.seq ?_
  refine C.seq ?_
  refine C.region ?_
  refine G.assignI rfl trivial rfl rfl rfl ?_
  refine G.nil ?_
  refine C.block ?_
  refine C.loop (fun m F D' L' => ∃ (i : Nat), m = xs.length - i + 0 ∧ i ≤ xs.length ∧ x ∉ xs.take i ∧ F 0 = .slice a xs.length c ∧ F 1 = .int .i64 x ∧ F 5 = .int .i64 (i : Int) ∧ D' = [] ∧ L = L') ⟨_, ⟨0, rfl, Nat.zero_le _, by simp, rfl, rfl, rfl, rfl, rfl⟩⟩ ?_
  rintro m F D' L' ⟨i, rfl, hi, hn, h0, h1, h5, rfl, rfl⟩
  refine C.fix (d := 0) h0 ?_
  refine C.fix (d := 1) h1 ?_
  refine C.fix (d := 5) h5 ?_
  refine C.seq ?_
  refine C.seq ?_
  refine C.region ?_
  refine G.moveI rfl trivial rfl rfl rfl ?_
  refine G.moveS rfl trivial rfl rfl rfl ?_
  refine G.lenSlice rfl trivial rfl rfl Try.underlying27 rfl ?_
  refine G.bin rfl trivial rfl rfl rfl rfl rfl ?_
  refine G.nil ?_
  refine C.cond _ rfl ?_ ?_
  · intro hc0
    have hlt : i < xs.length := by omega
    obtain ⟨p, o, rfl, _⟩ := hx.some_ (by simp; omega)
    refine C.skip ?_
    refine C.seq ?_
    refine C.block ?_
    refine C.seq ?_
    refine C.region ?_
    refine G.moveS rfl trivial rfl rfl rfl ?_
    refine G.moveI rfl trivial rfl rfl rfl ?_
    refine G.indexAddr rfl trivial rfl rfl Try.underlying27 I2 rfl rfl (by omega) ?_
    refine G.load rfl trivial rfl rfl Try.underlying2 rfl rfl (rd_at hx hlt) ?_
    refine G.moveI rfl trivial rfl rfl rfl ?_
    refine G.bin rfl trivial rfl rfl rfl rfl rfl ?_
    refine G.nil ?_
    refine C.cond _ rfl ?_ ?_
    · intro hc1
      refine C.seq ?_
      refine C.region ?_
      refine G.assignB rfl trivial rfl rfl rfl ?_
      refine G.nil ?_
      refine C.ret ?_
      -- end c0Tc1T
      have hmem : x ∈ xs := by rw [← hc1]; simp [hlt]
      exact ⟨rfl, _, Res.of (rs := [.tmp 4]) rfl rfl, rfl, by rw [decide_eq_true hmem]; rfl⟩
    · intro hc1
      refine C.skip ?_
      refine C.region ?_
      refine G.moveI rfl trivial rfl rfl rfl ?_
      refine G.addN (j := 1) rfl trivial rfl rfl rfl rfl (by omega) ?_
      refine G.assignI rfl trivial rfl rfl rfl ?_
      refine G.nil ?_
      exact ⟨xs.length - (i + 1) + 0, by omega, i + 1, rfl, by omega, by rw [List.take_succ_eq_append_getElem hlt, List.mem_append, List.mem_singleton]; rintro (h | h); exact hn h; exact hc1 (by rw [h]; simp [hlt]), rfl, rfl, rfl, rfl, rfl⟩
  · intro hc0
    refine C.exit ?_
    refine C.seq ?_
    refine C.region ?_
    refine G.assignB rfl trivial rfl rfl rfl ?_
    refine G.nil ?_
    refine C.ret ?_
    -- end c0F
    rw [List.take_of_length_le (by omega)] at hn
    exact ⟨rfl, _, Res.of (rs := [.tmp 4]) rfl rfl, rfl, by rw [decide_eq_false hn]; rfl⟩
end eq
end ref
end Go.Proofs.Ytomiidlbfcfpiaa
