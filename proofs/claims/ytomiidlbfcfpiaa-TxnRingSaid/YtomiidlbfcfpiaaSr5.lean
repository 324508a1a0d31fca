/-
  The library's sort: equal ones parted off, and what is nearly in order put in order: walked.
-/
import Derived.Test.YtomiidlbfcfpiaaSr4
namespace Go.Proofs.Ytomiidlbfcfpiaa
open Go Go.SL Go.RowKit Go.Sort

theorem scanSorted_go {d : Array Int} {b i : Nat} (h : i < b) (hp : ¬ d[i]! < d[i - 1]!) : scanSorted ltInt d b i = scanSorted ltInt d b (i + 1) := by
  conv => lhs; unfold scanSorted
  rw [if_pos (by simp only [ltInt, Bool.and_eq_true, decide_eq_true_eq, Bool.not_eq_true', decide_eq_false_iff_not]; exact ⟨h, hp⟩)]
theorem scanSorted_end {d : Array Int} {b i : Nat} (h : i < b → d[i]! < d[i - 1]!) : scanSorted ltInt d b i = i := by
  unfold scanSorted
  rw [if_neg]
  simp only [ltInt, Bool.and_eq_true, decide_eq_true_eq, Bool.not_eq_true', decide_eq_false_iff_not]
  rintro ⟨h1, h2⟩
  exact h2 (h h1)
theorem shiftDown_go {d : Array Int} {j : Nat} (h : 1 ≤ j) (hl : d[j]! < d[j - 1]!) : shiftDown ltInt j d = shiftDown ltInt (j - 1) (swp d j (j - 1)) := by
  obtain ⟨k, rfl⟩ : ∃ k, j = k + 1 := ⟨j - 1, by omega⟩
  rw [Nat.add_sub_cancel] at hl ⊢
  conv => lhs; unfold shiftDown
  rw [if_neg (by simp [ltInt]; exact hl)]
theorem shiftDown_end {d : Array Int} {j : Nat} (h : 1 ≤ j → ¬ d[j]! < d[j - 1]!) : shiftDown ltInt j d = d := by
  cases j with
  | zero => rfl
  | succ k =>
    have h1 := h (by omega)
    rw [Nat.add_sub_cancel] at h1
    unfold shiftDown
    rw [if_pos (by simp [ltInt]; exact Int.not_lt.1 h1)]
theorem shiftUp_go {d : Array Int} {b j : Nat} (h : j < b) (hl : d[j]! < d[j - 1]!) : shiftUp ltInt b j d = shiftUp ltInt b (j + 1) (swp d j (j - 1)) := by
  conv => lhs; unfold shiftUp
  rw [if_pos h, if_neg (by simp [ltInt]; exact hl)]
theorem shiftUp_end {d : Array Int} {b j : Nat} (h : j < b → ¬ d[j]! < d[j - 1]!) : shiftUp ltInt b j d = d := by
  unfold shiftUp
  by_cases h1 : j < b
  · rw [if_pos h1, if_pos (by simp [ltInt]; exact Int.not_lt.1 (h h1))]
  · rw [if_neg h1]
section sort
variable (W0 : World) {bk : Nat} {o0 : SObj} {L0 : List Seg} {u : Nat → SObj → List Seg} (ha : At L0 bk o0 u) (te : TypeId) (kk n cap : Nat) (rest : List Value) (hn : n ≤ 2305843009213693952)
include ha hn
theorem partEq_spec (d : Array Int) (hd : d.size = n) (a b p : Nat) (hap : a ≤ p) (hpb : p < b) (hb : b ≤ n) :
    FnS Try.prog W0 61 #[.slice (some ⟨bk, 0, none⟩) n cap, .int .i64 a, .int .i64 b, .int .i64 p] (u bk (.row (ic d rest) te kk))
      (fun e L' => L' = u bk (.row (ic (partitionEqual ltInt d a b p).2 rest) te kk) ∧ e = .returned (.int .i64 ((partitionEqual ltInt d a b p).1 : Int))) := by
  have hsz : (swp d a p).size = n := by rw [swp_size]; exact hd
  refine FnS.of (args := [.slice (some ⟨bk, 0, none⟩) n cap, .int .i64 (a : Int), .int .i64 (b : Int), .int .i64 (p : Int)]) Try.func61 rfl rfl ?_
  refine C.seq ?_
  refine C.region ?_
  refine G.assignI rfl trivial rfl rfl rfl ?_
  refine G.nil ?_
  refine C.seq ?_
  refine C.drawn mixed (_) [13, 15] (fun _ h => h) ?_
  refine GA.pure (i := 0) (fun _ _ _ _ _ h => h) rfl (by kernel_rfl) trivial rfl rfl (Y.moveS rfl rfl) (#[true, false, false, false, false, false, false, false, false, false, false, false, false, false, false, false]) (by kernel_rfl) ?_
  refine GA.pure (i := 1) (fun _ _ _ _ _ h => h) rfl (by kernel_rfl) trivial rfl rfl (Y.moveI rfl rfl) (#[true, true, false, false, false, false, false, false, false, false, false, false, false, false, false, false]) (by kernel_rfl) ?_
  refine GA.pure (i := 2) (fun _ _ _ _ _ h => h) rfl (by kernel_rfl) trivial rfl rfl (Y.moveS rfl rfl) (#[true, true, true, false, false, false, false, false, false, false, false, false, false, false, false, false]) (by kernel_rfl) ?_
  refine GA.pure (i := 3) (fun _ _ _ _ _ h => h) rfl (by kernel_rfl) trivial rfl rfl (Y.moveI rfl rfl) (#[true, true, true, true, false, false, false, false, false, false, false, false, false, false, false, false]) (by kernel_rfl) ?_
  refine GA.pure (i := 4) (fun _ _ _ _ _ h => h) rfl (by kernel_rfl) trivial rfl rfl (Y.moveS rfl rfl) (#[true, true, true, true, true, false, false, false, false, false, false, false, false, false, false, false]) (by kernel_rfl) ?_
  refine GA.pure (i := 5) (fun _ _ _ _ _ h => h) rfl (by kernel_rfl) trivial rfl rfl (Y.moveI rfl rfl) (#[true, true, true, true, true, true, false, false, false, false, false, false, false, false, false, false]) (by kernel_rfl) ?_
  refine GA.pure (i := 6) (fun _ _ _ _ _ h => h) rfl (by kernel_rfl) trivial rfl rfl (Y.idxN rfl Try.underlying27 I2 rfl rfl (by omega)) (#[true, true, true, true, true, true, true, false, false, false, false, false, false, false, false, false]) (by kernel_rfl) ?_
  refine GA.read (i := 7) (fun _ _ _ _ _ h => h) rfl (by kernel_rfl) (by kernel_rfl) trivial rfl rfl (Y.ldI (by first | exact ha.again _ | exact .next (ha.again _) | exact .next (.next (ha.again _))) rfl Try.underlying2 rfl rfl (by omega)) (#[true, true, true, true, true, true, true, true, false, false, false, false, false, false, false, false]) (by kernel_rfl) ?_
  refine GA.pure (i := 8) (fun _ _ _ _ _ h => h) rfl (by kernel_rfl) trivial rfl rfl (Y.moveS rfl rfl) (#[true, true, true, true, true, true, true, true, true, false, false, false, false, false, false, false]) (by kernel_rfl) ?_
  refine GA.pure (i := 9) (fun _ _ _ _ _ h => h) rfl (by kernel_rfl) trivial rfl rfl (Y.moveI rfl rfl) (#[true, true, true, true, true, true, true, true, true, true, false, false, false, false, false, false]) (by kernel_rfl) ?_
  refine GA.pure (i := 10) (fun _ _ _ _ _ h => h) rfl (by kernel_rfl) trivial rfl rfl (Y.idxN rfl Try.underlying27 I2 rfl rfl (by omega)) (#[true, true, true, true, true, true, true, true, true, true, true, false, false, false, false, false]) (by kernel_rfl) ?_
  refine GA.read (i := 11) (fun _ _ _ _ _ h => h) rfl (by kernel_rfl) (by kernel_rfl) trivial rfl rfl (Y.ldI (by first | exact ha.again _ | exact .next (ha.again _) | exact .next (.next (ha.again _))) rfl Try.underlying2 rfl rfl (by omega)) (#[true, true, true, true, true, true, true, true, true, true, true, true, false, false, false, false]) (by kernel_rfl) ?_
  refine GA.pure (i := 12) (fun _ _ _ _ _ h => h) rfl (by kernel_rfl) trivial rfl rfl (Y.idxN rfl Try.underlying27 I2 rfl rfl (by omega)) (#[true, true, true, true, true, true, true, true, true, true, true, true, true, false, false, false]) (by kernel_rfl) ?_
  refine GA.one (i := 13) rfl (by kernel_rfl) (#[true, true, true, true, true, true, true, true, true, true, true, true, true, true, false, false]) (by kernel_rfl) ?_
  refine G.stI (by first | exact ha.again _ | exact .next (ha.again _) | exact .next (.next (ha.again _))) rfl trivial rfl I2 rfl rfl (by first | omega | (simp only [Array.size_setIfInBounds]; omega)) ?_
  refine G.nil ?_
  refine ⟨fun _ h => absurd h (by simp [hit]), ?_⟩
  refine GA.pure (i := 14) (fun _ _ _ _ _ h => h) rfl (by kernel_rfl) trivial rfl rfl (Y.idxN rfl Try.underlying27 I2 rfl rfl (by omega)) (#[true, true, true, true, true, true, true, true, true, true, true, true, true, true, true, false]) (by kernel_rfl) ?_
  refine GA.one (i := 15) rfl (by kernel_rfl) (#[true, true, true, true, true, true, true, true, true, true, true, true, true, true, true, true]) (by kernel_rfl) ?_
  refine G.stI (by first | exact ha.again _ | exact .next (ha.again _) | exact .next (.next (ha.again _))) rfl trivial rfl I2 rfl rfl (by first | omega | (simp only [Array.size_setIfInBounds]; omega)) ?_
  refine G.nil ?_
  refine ⟨fun _ h => absurd h (by simp [hit]), ?_⟩
  refine GA.done (by kernel_rfl) ?_
  refine C.seq ?_
  refine C.region ?_
  refine G.moveI rfl trivial rfl rfl rfl ?_
  refine G.addN (j := 1) rfl trivial rfl rfl rfl rfl (by omega) ?_
  refine G.moveI rfl trivial rfl rfl rfl ?_
  refine G.subN (j := 1) rfl trivial rfl rfl rfl rfl (by omega) ?_
  refine G.assignI rfl trivial rfl rfl rfl ?_
  refine G.assignI rfl trivial rfl rfl rfl ?_
  refine G.nil ?_
  refine C.seq ?_
  refine C.block ?_
  refine C.loop (fun m F D' L' => ∃ (i1 j1 : Nat) (e : Array Int), m = j1 + 1 - i1 + 0 ∧ a + 1 ≤ i1 ∧ i1 ≤ b ∧ a ≤ j1 ∧ j1 ≤ b - 1 ∧ e.size = n ∧ partEqLoop ltInt a i1 j1 e = partitionEqual ltInt d a b p ∧ F 0 = .slice (some ⟨bk, 0, none⟩) n cap ∧ F 1 = .int .i64 (a : Int) ∧ F 9 = .int .i64 (i1 : Int) ∧ F 10 = .int .i64 (j1 : Int) ∧ D' = [] ∧ u bk (.row (ic (e) rest) te kk) = L') ⟨_, ⟨a + 1, b - 1, swp d a p, rfl, by omega, by omega, by omega, by omega, hsz, rfl, rfl, rfl, rfl, rfl, rfl, rfl⟩⟩ ?_
  rintro m F D' L' ⟨i1, j1, e, rfl, hi3, hi4, hj3, hj4, he, hpl, h0, h1, h9, h10, rfl, rfl⟩
  refine C.fix (d := 0) h0 ?_
  refine C.fix (d := 1) h1 ?_
  refine C.fix (d := 9) h9 ?_
  refine C.fix (d := 10) h10 ?_
  refine C.block ?_
  refine C.cut (fun F D' L' => ∃ i2 : Nat, scanUp (fun x => !ltInt e[a]! x) e j1 i1 = i2 ∧ i1 ≤ i2 ∧ i2 ≤ b ∧ F 0 = .slice (some ⟨bk, 0, none⟩) n cap ∧ F 1 = .int .i64 (a : Int) ∧ F 9 = .int .i64 (i2 : Int) ∧ F 10 = .int .i64 (j1 : Int) ∧ D' = [] ∧ u bk (.row (ic (e) rest) te kk) = L') ?_ ?_
  ·
    refine C.block ?_
    refine C.loop (fun m F D' L' => ∃ (i2 : Nat), m = b + 1 - i2 ∧ i1 ≤ i2 ∧ i2 ≤ b ∧ scanUp (fun x => !ltInt e[a]! x) e j1 i2 = scanUp (fun x => !ltInt e[a]! x) e j1 i1 ∧ F 0 = .slice (some ⟨bk, 0, none⟩) n cap ∧ F 1 = .int .i64 (a : Int) ∧ F 9 = .int .i64 (i2 : Int) ∧ F 10 = .int .i64 (j1 : Int) ∧ D' = [] ∧ u bk (.row (ic (e) rest) te kk) = L') ⟨_, ⟨i1, rfl, by omega, by omega, rfl, rfl, rfl, rfl, rfl, rfl, rfl⟩⟩ ?_
    rintro m F D' L' ⟨i2, rfl, hi5, hi6, hsc2, h0, h1, h9, h10, rfl, rfl⟩
    refine C.fix (d := 0) h0 ?_
    refine C.fix (d := 1) h1 ?_
    refine C.fix (d := 9) h9 ?_
    refine C.fix (d := 10) h10 ?_
    refine C.seq ?_
    refine C.seq ?_
    refine C.drawn mixed (_) [] (fun _ h => h) ?_
    refine GA.pure (i := 0) (fun _ _ _ _ _ h => h) rfl (by kernel_rfl) trivial rfl rfl (Y.moveI rfl rfl) (#[true, false, false, false, false, false, false, false, false, false, false, false, false, false, false]) (by kernel_rfl) ?_
    refine GA.pure (i := 1) (fun _ _ _ _ _ h => h) rfl (by kernel_rfl) trivial rfl rfl (Y.moveI rfl rfl) (#[true, true, false, false, false, false, false, false, false, false, false, false, false, false, false]) (by kernel_rfl) ?_
    refine GA.pure (i := 2) (fun _ _ _ _ _ h => h) rfl (by kernel_rfl) trivial rfl rfl (Y.bin rfl rfl rfl rfl) (#[true, true, true, false, false, false, false, false, false, false, false, false, false, false, false]) (by kernel_rfl) ?_
    refine GA.pure (i := 3) (fun _ _ _ _ _ h => h) rfl (by kernel_rfl) trivial rfl rfl (Y.moveB rfl rfl) (#[true, true, true, true, false, false, false, false, false, false, false, false, false, false, false]) (by kernel_rfl) ?_
    refine GA.fork (t := 32) _ rfl ?_ ?_
    · intro hg32
      refine GA.pure (i := 4) (fun _ _ _ _ _ h => h) rfl (by kernel_rfl) ⟨_, rfl, rfl, rfl⟩ rfl rfl (Y.moveS rfl rfl) (#[true, true, true, true, true, false, false, false, false, false, false, false, false, false, false]) (by kernel_rfl) ?_
      refine GA.pure (i := 5) (fun _ _ _ _ _ h => h) rfl (by kernel_rfl) ⟨_, rfl, rfl, rfl⟩ rfl rfl (Y.moveI rfl rfl) (#[true, true, true, true, true, true, false, false, false, false, false, false, false, false, false]) (by kernel_rfl) ?_
      refine GA.pure (i := 6) (fun _ _ _ _ _ h => h) rfl (by kernel_rfl) ⟨_, rfl, rfl, rfl⟩ rfl rfl (Y.idxN rfl Try.underlying27 I2 rfl rfl (by omega)) (#[true, true, true, true, true, true, true, false, false, false, false, false, false, false, false]) (by kernel_rfl) ?_
      refine GA.read (i := 7) (fun _ _ _ _ _ h => h) rfl (by kernel_rfl) (by kernel_rfl) ⟨_, rfl, rfl, rfl⟩ rfl rfl (Y.ldI (by first | exact ha.again _ | exact .next (ha.again _) | exact .next (.next (ha.again _))) rfl Try.underlying2 rfl rfl (by omega)) (#[true, true, true, true, true, true, true, true, false, false, false, false, false, false, false]) (by kernel_rfl) ?_
      refine GA.pure (i := 8) (fun _ _ _ _ _ h => h) rfl (by kernel_rfl) ⟨_, rfl, rfl, rfl⟩ rfl rfl (Y.moveS rfl rfl) (#[true, true, true, true, true, true, true, true, true, false, false, false, false, false, false]) (by kernel_rfl) ?_
      refine GA.pure (i := 9) (fun _ _ _ _ _ h => h) rfl (by kernel_rfl) ⟨_, rfl, rfl, rfl⟩ rfl rfl (Y.moveI rfl rfl) (#[true, true, true, true, true, true, true, true, true, true, false, false, false, false, false]) (by kernel_rfl) ?_
      refine GA.pure (i := 10) (fun _ _ _ _ _ h => h) rfl (by kernel_rfl) ⟨_, rfl, rfl, rfl⟩ rfl rfl (Y.idxN rfl Try.underlying27 I2 rfl rfl (by omega)) (#[true, true, true, true, true, true, true, true, true, true, true, false, false, false, false]) (by kernel_rfl) ?_
      refine GA.read (i := 11) (fun _ _ _ _ _ h => h) rfl (by kernel_rfl) (by kernel_rfl) ⟨_, rfl, rfl, rfl⟩ rfl rfl (Y.ldI (by first | exact ha.again _ | exact .next (ha.again _) | exact .next (.next (ha.again _))) rfl Try.underlying2 rfl rfl (by omega)) (#[true, true, true, true, true, true, true, true, true, true, true, true, false, false, false]) (by kernel_rfl) ?_
      refine GA.one (i := 12) rfl (by kernel_rfl) (#[true, true, true, true, true, true, true, true, true, true, true, true, true, false, false]) (by kernel_rfl) ?_
      refine G.call E60 rfl rfl ⟨_, rfl, rfl, rfl⟩ rfl rfl (less_spec W0 _ _ _) rfl ?_
      rintro e L2 ⟨rfl, rfl⟩
      refine G.nil ?_
      refine ⟨fun _ _ h => h, ?_⟩
      first | refine GA.pure (i := 13) (fun _ _ _ _ _ h => h) rfl (by kernel_rfl) ⟨_, rfl, rfl, rfl⟩ rfl rfl (Y.notD rfl rfl) (#[true, true, true, true, true, true, true, true, true, true, true, true, true, true, false]) (by kernel_rfl) ?_ | refine GA.pure (i := 13) (fun _ _ _ _ _ h => h) rfl (by kernel_rfl) ⟨_, rfl, rfl, rfl⟩ rfl rfl (Y.not rfl rfl) (#[true, true, true, true, true, true, true, true, true, true, true, true, true, true, false]) (by kernel_rfl) ?_
      first | refine GA.pure (i := 14) (fun _ _ _ _ _ h => h) rfl (by kernel_rfl) trivial rfl rfl (Y.pickT rfl rfl rfl) (#[true, true, true, true, true, true, true, true, true, true, true, true, true, true, true]) (by kernel_rfl) ?_ | refine GA.pure (i := 14) (fun _ _ _ _ _ h => h) rfl (by kernel_rfl) trivial rfl rfl (Y.pickF rfl rfl rfl) (#[true, true, true, true, true, true, true, true, true, true, true, true, true, true, true]) (by kernel_rfl) ?_
      refine GA.done (by kernel_rfl) ?_
      refine C.cond _ rfl ?_ ?_
      · intro hc0
        refine C.skip ?_
        refine C.block ?_
        refine C.region ?_
        refine G.moveI rfl trivial rfl rfl rfl ?_
        refine G.addN (j := 1) rfl trivial rfl rfl rfl rfl (by omega) ?_
        refine G.assignI rfl trivial rfl rfl rfl ?_
        refine G.nil ?_
        exact ⟨b + 1 - (i2 + 1), by omega, i2 + 1, rfl, by omega, by omega, by rw [← hsc2]; exact (scanUp_go (by omega) (by simpa [ltInt] using hc0)).symm, rfl, rfl, rfl, rfl, rfl, rfl⟩
      · intro hc0
        refine C.exit ?_
        exact ⟨i2, by rw [← hsc2]; exact scanUp_end (fun hle => by first | exact absurd hle (by omega) | simpa [ltInt] using hc0), by omega, by omega, rfl, rfl, rfl, rfl, rfl, rfl⟩
    · intro hg32
      refine GA.skip (i := 4) (fun _ _ _ _ _ h => h) rfl (by kernel_rfl) rfl rfl rfl rfl rfl rfl (#[true, true, true, true, true, false, false, false, false, false, false, false, false, false, false]) (by kernel_rfl) ?_
      refine GA.skip (i := 5) (fun _ _ _ _ _ h => h) rfl (by kernel_rfl) rfl rfl rfl rfl rfl rfl (#[true, true, true, true, true, true, false, false, false, false, false, false, false, false, false]) (by kernel_rfl) ?_
      refine GA.skip (i := 6) (fun _ _ _ _ _ h => h) rfl (by kernel_rfl) rfl rfl rfl rfl rfl rfl (#[true, true, true, true, true, true, true, false, false, false, false, false, false, false, false]) (by kernel_rfl) ?_
      refine GA.skip (i := 7) (fun _ _ _ _ _ h => h) rfl (by kernel_rfl) rfl rfl rfl rfl rfl rfl (#[true, true, true, true, true, true, true, true, false, false, false, false, false, false, false]) (by kernel_rfl) ?_
      refine GA.skip (i := 8) (fun _ _ _ _ _ h => h) rfl (by kernel_rfl) rfl rfl rfl rfl rfl rfl (#[true, true, true, true, true, true, true, true, true, false, false, false, false, false, false]) (by kernel_rfl) ?_
      refine GA.skip (i := 9) (fun _ _ _ _ _ h => h) rfl (by kernel_rfl) rfl rfl rfl rfl rfl rfl (#[true, true, true, true, true, true, true, true, true, true, false, false, false, false, false]) (by kernel_rfl) ?_
      refine GA.skip (i := 10) (fun _ _ _ _ _ h => h) rfl (by kernel_rfl) rfl rfl rfl rfl rfl rfl (#[true, true, true, true, true, true, true, true, true, true, true, false, false, false, false]) (by kernel_rfl) ?_
      refine GA.skip (i := 11) (fun _ _ _ _ _ h => h) rfl (by kernel_rfl) rfl rfl rfl rfl rfl rfl (#[true, true, true, true, true, true, true, true, true, true, true, true, false, false, false]) (by kernel_rfl) ?_
      refine GA.skip (i := 12) (fun _ _ _ _ _ h => h) rfl (by kernel_rfl) rfl rfl rfl rfl rfl rfl (#[true, true, true, true, true, true, true, true, true, true, true, true, true, false, false]) (by kernel_rfl) ?_
      refine GA.skip (i := 13) (fun _ _ _ _ _ h => h) rfl (by kernel_rfl) rfl rfl rfl rfl rfl rfl (#[true, true, true, true, true, true, true, true, true, true, true, true, true, true, false]) (by kernel_rfl) ?_
      first | refine GA.pure (i := 14) (fun _ _ _ _ _ h => h) rfl (by kernel_rfl) trivial rfl rfl (Y.pickT rfl rfl rfl) (#[true, true, true, true, true, true, true, true, true, true, true, true, true, true, true]) (by kernel_rfl) ?_ | refine GA.pure (i := 14) (fun _ _ _ _ _ h => h) rfl (by kernel_rfl) trivial rfl rfl (Y.pickF rfl rfl rfl) (#[true, true, true, true, true, true, true, true, true, true, true, true, true, true, true]) (by kernel_rfl) ?_
      refine GA.done (by kernel_rfl) ?_
      refine C.condF rfl ?_
      refine C.exit ?_
      exact ⟨i2, by rw [← hsc2]; exact scanUp_end (fun hle => by first | exact absurd hle (by omega) | simpa [ltInt] using hc0), by omega, by omega, rfl, rfl, rfl, rfl, rfl, rfl⟩
  ·
    rintro F D' L' ⟨i2, hiE2, hi5, hi6, h0, h1, h9, h10, rfl, rfl⟩
    refine C.fix (d := 0) h0 ?_
    refine C.fix (d := 1) h1 ?_
    refine C.fix (d := 9) h9 ?_
    refine C.fix (d := 10) h10 ?_
    refine C.cut (fun F D' L' => ∃ j2 : Nat, scanDown (fun x => ltInt e[a]! x) e i2 j1 = j2 ∧ a ≤ j2 ∧ j2 ≤ j1 ∧ F 0 = .slice (some ⟨bk, 0, none⟩) n cap ∧ F 1 = .int .i64 (a : Int) ∧ F 9 = .int .i64 (i2 : Int) ∧ F 10 = .int .i64 (j2 : Int) ∧ D' = [] ∧ u bk (.row (ic (e) rest) te kk) = L') ?_ ?_
    ·
      refine C.block ?_
      refine C.loop (fun m F D' L' => ∃ (j2 : Nat), m = j2 + 1 ∧ a ≤ j2 ∧ j2 ≤ j1 ∧ scanDown (fun x => ltInt e[a]! x) e i2 j2 = scanDown (fun x => ltInt e[a]! x) e i2 j1 ∧ F 0 = .slice (some ⟨bk, 0, none⟩) n cap ∧ F 1 = .int .i64 (a : Int) ∧ F 9 = .int .i64 (i2 : Int) ∧ F 10 = .int .i64 (j2 : Int) ∧ D' = [] ∧ u bk (.row (ic (e) rest) te kk) = L') ⟨_, ⟨j1, rfl, by omega, by omega, rfl, rfl, rfl, rfl, rfl, rfl, rfl⟩⟩ ?_
      rintro m F D' L' ⟨j2, rfl, hj5, hj6, hsd2, h0, h1, h9, h10, rfl, rfl⟩
      refine C.fix (d := 0) h0 ?_
      refine C.fix (d := 1) h1 ?_
      refine C.fix (d := 9) h9 ?_
      refine C.fix (d := 10) h10 ?_
      refine C.seq ?_
      refine C.seq ?_
      refine C.drawn mixed (_) [] (fun _ h => h) ?_
      refine GA.pure (i := 0) (fun _ _ _ _ _ h => h) rfl (by kernel_rfl) trivial rfl rfl (Y.moveI rfl rfl) (#[true, false, false, false, false, false, false, false, false, false, false, false, false, false]) (by kernel_rfl) ?_
      refine GA.pure (i := 1) (fun _ _ _ _ _ h => h) rfl (by kernel_rfl) trivial rfl rfl (Y.moveI rfl rfl) (#[true, true, false, false, false, false, false, false, false, false, false, false, false, false]) (by kernel_rfl) ?_
      refine GA.pure (i := 2) (fun _ _ _ _ _ h => h) rfl (by kernel_rfl) trivial rfl rfl (Y.bin rfl rfl rfl rfl) (#[true, true, true, false, false, false, false, false, false, false, false, false, false, false]) (by kernel_rfl) ?_
      refine GA.pure (i := 3) (fun _ _ _ _ _ h => h) rfl (by kernel_rfl) trivial rfl rfl (Y.moveB rfl rfl) (#[true, true, true, true, false, false, false, false, false, false, false, false, false, false]) (by kernel_rfl) ?_
      refine GA.fork (t := 49) _ rfl ?_ ?_
      · intro hg49
        refine GA.pure (i := 4) (fun _ _ _ _ _ h => h) rfl (by kernel_rfl) ⟨_, rfl, rfl, rfl⟩ rfl rfl (Y.moveS rfl rfl) (#[true, true, true, true, true, false, false, false, false, false, false, false, false, false]) (by kernel_rfl) ?_
        refine GA.pure (i := 5) (fun _ _ _ _ _ h => h) rfl (by kernel_rfl) ⟨_, rfl, rfl, rfl⟩ rfl rfl (Y.moveI rfl rfl) (#[true, true, true, true, true, true, false, false, false, false, false, false, false, false]) (by kernel_rfl) ?_
        refine GA.pure (i := 6) (fun _ _ _ _ _ h => h) rfl (by kernel_rfl) ⟨_, rfl, rfl, rfl⟩ rfl rfl (Y.idxN rfl Try.underlying27 I2 rfl rfl (by omega)) (#[true, true, true, true, true, true, true, false, false, false, false, false, false, false]) (by kernel_rfl) ?_
        refine GA.read (i := 7) (fun _ _ _ _ _ h => h) rfl (by kernel_rfl) (by kernel_rfl) ⟨_, rfl, rfl, rfl⟩ rfl rfl (Y.ldI (by first | exact ha.again _ | exact .next (ha.again _) | exact .next (.next (ha.again _))) rfl Try.underlying2 rfl rfl (by omega)) (#[true, true, true, true, true, true, true, true, false, false, false, false, false, false]) (by kernel_rfl) ?_
        refine GA.pure (i := 8) (fun _ _ _ _ _ h => h) rfl (by kernel_rfl) ⟨_, rfl, rfl, rfl⟩ rfl rfl (Y.moveS rfl rfl) (#[true, true, true, true, true, true, true, true, true, false, false, false, false, false]) (by kernel_rfl) ?_
        refine GA.pure (i := 9) (fun _ _ _ _ _ h => h) rfl (by kernel_rfl) ⟨_, rfl, rfl, rfl⟩ rfl rfl (Y.moveI rfl rfl) (#[true, true, true, true, true, true, true, true, true, true, false, false, false, false]) (by kernel_rfl) ?_
        refine GA.pure (i := 10) (fun _ _ _ _ _ h => h) rfl (by kernel_rfl) ⟨_, rfl, rfl, rfl⟩ rfl rfl (Y.idxN rfl Try.underlying27 I2 rfl rfl (by omega)) (#[true, true, true, true, true, true, true, true, true, true, true, false, false, false]) (by kernel_rfl) ?_
        refine GA.read (i := 11) (fun _ _ _ _ _ h => h) rfl (by kernel_rfl) (by kernel_rfl) ⟨_, rfl, rfl, rfl⟩ rfl rfl (Y.ldI (by first | exact ha.again _ | exact .next (ha.again _) | exact .next (.next (ha.again _))) rfl Try.underlying2 rfl rfl (by omega)) (#[true, true, true, true, true, true, true, true, true, true, true, true, false, false]) (by kernel_rfl) ?_
        refine GA.one (i := 12) rfl (by kernel_rfl) (#[true, true, true, true, true, true, true, true, true, true, true, true, true, false]) (by kernel_rfl) ?_
        refine G.call E60 rfl rfl ⟨_, rfl, rfl, rfl⟩ rfl rfl (less_spec W0 _ _ _) rfl ?_
        rintro e L2 ⟨rfl, rfl⟩
        refine G.nil ?_
        refine ⟨fun _ _ h => h, ?_⟩
        first | refine GA.pure (i := 13) (fun _ _ _ _ _ h => h) rfl (by kernel_rfl) trivial rfl rfl (Y.pickT rfl rfl rfl) (#[true, true, true, true, true, true, true, true, true, true, true, true, true, true]) (by kernel_rfl) ?_ | refine GA.pure (i := 13) (fun _ _ _ _ _ h => h) rfl (by kernel_rfl) trivial rfl rfl (Y.pickF rfl rfl rfl) (#[true, true, true, true, true, true, true, true, true, true, true, true, true, true]) (by kernel_rfl) ?_
        refine GA.done (by kernel_rfl) ?_
        refine C.cond _ rfl ?_ ?_
        · intro hc1
          refine C.skip ?_
          refine C.block ?_
          refine C.region ?_
          refine G.moveI rfl trivial rfl rfl rfl ?_
          refine G.subN (j := 1) rfl trivial rfl rfl rfl rfl (by omega) ?_
          refine G.assignI rfl trivial rfl rfl rfl ?_
          refine G.nil ?_
          exact ⟨j2 - 1 + 1, by omega, j2 - 1, rfl, by omega, by omega, by rw [← hsd2]; exact (scanDown_go (by omega) (by omega) (by simpa [ltInt] using hc1)).symm, rfl, rfl, rfl, rfl, rfl, rfl⟩
        · intro hc1
          refine C.exit ?_
          exact ⟨j2, by rw [← hsd2]; exact scanDown_end (fun hle => by first | exact absurd hle (by omega) | simpa [ltInt] using hc1), by omega, by omega, rfl, rfl, rfl, rfl, rfl, rfl⟩
      · intro hg49
        refine GA.skip (i := 4) (fun _ _ _ _ _ h => h) rfl (by kernel_rfl) rfl rfl rfl rfl rfl rfl (#[true, true, true, true, true, false, false, false, false, false, false, false, false, false]) (by kernel_rfl) ?_
        refine GA.skip (i := 5) (fun _ _ _ _ _ h => h) rfl (by kernel_rfl) rfl rfl rfl rfl rfl rfl (#[true, true, true, true, true, true, false, false, false, false, false, false, false, false]) (by kernel_rfl) ?_
        refine GA.skip (i := 6) (fun _ _ _ _ _ h => h) rfl (by kernel_rfl) rfl rfl rfl rfl rfl rfl (#[true, true, true, true, true, true, true, false, false, false, false, false, false, false]) (by kernel_rfl) ?_
        refine GA.skip (i := 7) (fun _ _ _ _ _ h => h) rfl (by kernel_rfl) rfl rfl rfl rfl rfl rfl (#[true, true, true, true, true, true, true, true, false, false, false, false, false, false]) (by kernel_rfl) ?_
        refine GA.skip (i := 8) (fun _ _ _ _ _ h => h) rfl (by kernel_rfl) rfl rfl rfl rfl rfl rfl (#[true, true, true, true, true, true, true, true, true, false, false, false, false, false]) (by kernel_rfl) ?_
        refine GA.skip (i := 9) (fun _ _ _ _ _ h => h) rfl (by kernel_rfl) rfl rfl rfl rfl rfl rfl (#[true, true, true, true, true, true, true, true, true, true, false, false, false, false]) (by kernel_rfl) ?_
        refine GA.skip (i := 10) (fun _ _ _ _ _ h => h) rfl (by kernel_rfl) rfl rfl rfl rfl rfl rfl (#[true, true, true, true, true, true, true, true, true, true, true, false, false, false]) (by kernel_rfl) ?_
        refine GA.skip (i := 11) (fun _ _ _ _ _ h => h) rfl (by kernel_rfl) rfl rfl rfl rfl rfl rfl (#[true, true, true, true, true, true, true, true, true, true, true, true, false, false]) (by kernel_rfl) ?_
        refine GA.skip (i := 12) (fun _ _ _ _ _ h => h) rfl (by kernel_rfl) rfl rfl rfl rfl rfl rfl (#[true, true, true, true, true, true, true, true, true, true, true, true, true, false]) (by kernel_rfl) ?_
        first | refine GA.pure (i := 13) (fun _ _ _ _ _ h => h) rfl (by kernel_rfl) trivial rfl rfl (Y.pickT rfl rfl rfl) (#[true, true, true, true, true, true, true, true, true, true, true, true, true, true]) (by kernel_rfl) ?_ | refine GA.pure (i := 13) (fun _ _ _ _ _ h => h) rfl (by kernel_rfl) trivial rfl rfl (Y.pickF rfl rfl rfl) (#[true, true, true, true, true, true, true, true, true, true, true, true, true, true]) (by kernel_rfl) ?_
        refine GA.done (by kernel_rfl) ?_
        refine C.condF rfl ?_
        refine C.exit ?_
        exact ⟨j2, by rw [← hsd2]; exact scanDown_end (fun hle => by first | exact absurd hle (by omega) | simpa [ltInt] using hc1), by omega, by omega, rfl, rfl, rfl, rfl, rfl, rfl⟩
    ·
      rintro F D' L' ⟨j2, hjE2, hj5, hj6, h0, h1, h9, h10, rfl, rfl⟩
      refine C.fix (d := 0) h0 ?_
      refine C.fix (d := 1) h1 ?_
      refine C.fix (d := 9) h9 ?_
      refine C.fix (d := 10) h10 ?_
      refine C.seq ?_
      refine C.seq ?_
      refine C.region ?_
      refine G.moveI rfl trivial rfl rfl rfl ?_
      refine G.moveI rfl trivial rfl rfl rfl ?_
      refine G.bin rfl trivial rfl rfl rfl rfl rfl ?_
      have hpe := partEqLoop_eq ltInt a i1 j1 e
      rw [hiE2, hjE2] at hpe
      refine G.nil ?_
      refine C.cond _ rfl ?_ ?_
      · intro hc2
        refine C.exit ?_
        refine C.seq ?_
        refine C.region ?_
        refine G.moveI rfl trivial rfl rfl rfl ?_
        refine G.assignI rfl trivial rfl rfl rfl ?_
        refine G.nil ?_
        refine C.ret ?_
        -- end c2T
        have hP : partitionEqual ltInt d a b p = (i2, e) := by rw [← hpl, hpe, if_pos (by omega)]
        exact ⟨rfl, _, Res.of (rs := [.tmp 8]) rfl rfl, by rw [hP], by rw [hP]; rfl⟩
      · intro hc2
        refine C.skip ?_
        refine C.seq ?_
        refine C.drawn mixed (_) [13, 15] (fun _ h => h) ?_
        refine GA.pure (i := 0) (fun _ _ _ _ _ h => h) rfl (by kernel_rfl) trivial rfl rfl (Y.moveS rfl rfl) (#[true, false, false, false, false, false, false, false, false, false, false, false, false, false, false, false]) (by kernel_rfl) ?_
        refine GA.pure (i := 1) (fun _ _ _ _ _ h => h) rfl (by kernel_rfl) trivial rfl rfl (Y.moveI rfl rfl) (#[true, true, false, false, false, false, false, false, false, false, false, false, false, false, false, false]) (by kernel_rfl) ?_
        refine GA.pure (i := 2) (fun _ _ _ _ _ h => h) rfl (by kernel_rfl) trivial rfl rfl (Y.moveS rfl rfl) (#[true, true, true, false, false, false, false, false, false, false, false, false, false, false, false, false]) (by kernel_rfl) ?_
        refine GA.pure (i := 3) (fun _ _ _ _ _ h => h) rfl (by kernel_rfl) trivial rfl rfl (Y.moveI rfl rfl) (#[true, true, true, true, false, false, false, false, false, false, false, false, false, false, false, false]) (by kernel_rfl) ?_
        refine GA.pure (i := 4) (fun _ _ _ _ _ h => h) rfl (by kernel_rfl) trivial rfl rfl (Y.moveS rfl rfl) (#[true, true, true, true, true, false, false, false, false, false, false, false, false, false, false, false]) (by kernel_rfl) ?_
        refine GA.pure (i := 5) (fun _ _ _ _ _ h => h) rfl (by kernel_rfl) trivial rfl rfl (Y.moveI rfl rfl) (#[true, true, true, true, true, true, false, false, false, false, false, false, false, false, false, false]) (by kernel_rfl) ?_
        refine GA.pure (i := 6) (fun _ _ _ _ _ h => h) rfl (by kernel_rfl) trivial rfl rfl (Y.idxN rfl Try.underlying27 I2 rfl rfl (by omega)) (#[true, true, true, true, true, true, true, false, false, false, false, false, false, false, false, false]) (by kernel_rfl) ?_
        refine GA.read (i := 7) (fun _ _ _ _ _ h => h) rfl (by kernel_rfl) (by kernel_rfl) trivial rfl rfl (Y.ldI (by first | exact ha.again _ | exact .next (ha.again _) | exact .next (.next (ha.again _))) rfl Try.underlying2 rfl rfl (by omega)) (#[true, true, true, true, true, true, true, true, false, false, false, false, false, false, false, false]) (by kernel_rfl) ?_
        refine GA.pure (i := 8) (fun _ _ _ _ _ h => h) rfl (by kernel_rfl) trivial rfl rfl (Y.moveS rfl rfl) (#[true, true, true, true, true, true, true, true, true, false, false, false, false, false, false, false]) (by kernel_rfl) ?_
        refine GA.pure (i := 9) (fun _ _ _ _ _ h => h) rfl (by kernel_rfl) trivial rfl rfl (Y.moveI rfl rfl) (#[true, true, true, true, true, true, true, true, true, true, false, false, false, false, false, false]) (by kernel_rfl) ?_
        refine GA.pure (i := 10) (fun _ _ _ _ _ h => h) rfl (by kernel_rfl) trivial rfl rfl (Y.idxN rfl Try.underlying27 I2 rfl rfl (by omega)) (#[true, true, true, true, true, true, true, true, true, true, true, false, false, false, false, false]) (by kernel_rfl) ?_
        refine GA.read (i := 11) (fun _ _ _ _ _ h => h) rfl (by kernel_rfl) (by kernel_rfl) trivial rfl rfl (Y.ldI (by first | exact ha.again _ | exact .next (ha.again _) | exact .next (.next (ha.again _))) rfl Try.underlying2 rfl rfl (by omega)) (#[true, true, true, true, true, true, true, true, true, true, true, true, false, false, false, false]) (by kernel_rfl) ?_
        refine GA.pure (i := 12) (fun _ _ _ _ _ h => h) rfl (by kernel_rfl) trivial rfl rfl (Y.idxN rfl Try.underlying27 I2 rfl rfl (by omega)) (#[true, true, true, true, true, true, true, true, true, true, true, true, true, false, false, false]) (by kernel_rfl) ?_
        refine GA.one (i := 13) rfl (by kernel_rfl) (#[true, true, true, true, true, true, true, true, true, true, true, true, true, true, false, false]) (by kernel_rfl) ?_
        refine G.stI (by first | exact ha.again _ | exact .next (ha.again _) | exact .next (.next (ha.again _))) rfl trivial rfl I2 rfl rfl (by first | omega | (simp only [Array.size_setIfInBounds]; omega)) ?_
        refine G.nil ?_
        refine ⟨fun _ h => absurd h (by simp [hit]), ?_⟩
        refine GA.pure (i := 14) (fun _ _ _ _ _ h => h) rfl (by kernel_rfl) trivial rfl rfl (Y.idxN rfl Try.underlying27 I2 rfl rfl (by omega)) (#[true, true, true, true, true, true, true, true, true, true, true, true, true, true, true, false]) (by kernel_rfl) ?_
        refine GA.one (i := 15) rfl (by kernel_rfl) (#[true, true, true, true, true, true, true, true, true, true, true, true, true, true, true, true]) (by kernel_rfl) ?_
        refine G.stI (by first | exact ha.again _ | exact .next (ha.again _) | exact .next (.next (ha.again _))) rfl trivial rfl I2 rfl rfl (by first | omega | (simp only [Array.size_setIfInBounds]; omega)) ?_
        refine G.nil ?_
        refine ⟨fun _ h => absurd h (by simp [hit]), ?_⟩
        refine GA.done (by kernel_rfl) ?_
        refine C.seq ?_
        refine C.region ?_
        refine G.moveI rfl trivial rfl rfl rfl ?_
        refine G.addN (j := 1) rfl trivial rfl rfl rfl rfl (by omega) ?_
        refine G.assignI rfl trivial rfl rfl rfl ?_
        refine G.nil ?_
        refine C.region ?_
        refine G.moveI rfl trivial rfl rfl rfl ?_
        refine G.subN (j := 1) rfl trivial rfl rfl rfl rfl (by omega) ?_
        refine G.assignI rfl trivial rfl rfl rfl ?_
        refine G.nil ?_
        exact ⟨j2 - 1 + 1 - (i2 + 1) + 0, by omega, i2 + 1, j2 - 1, swp e i2 j2, rfl, by omega, by omega, by omega, by omega, by rw [swp_size]; exact he, by rw [← hpl, hpe, if_neg (by omega)], rfl, rfl, rfl, rfl, rfl, rfl⟩
theorem partialIns_spec' (d : Array Int) (hd : d.size = n) (a b : Nat) (hab : a < b) (hb : b ≤ n) :
    FnS Try.prog W0 59 #[.slice (some ⟨bk, 0, none⟩) n cap, .int .i64 a, .int .i64 b] (u bk (.row (ic d rest) te kk))
      (fun e L' => L' = u bk (.row (ic (partialInsertionSort ltInt d a b).1 rest) te kk) ∧ e = .returned (.bool (partialInsertionSort ltInt d a b).2)) := by
  refine FnS.of (args := [.slice (some ⟨bk, 0, none⟩) n cap, .int .i64 (a : Int), .int .i64 (b : Int)]) Try.func59 rfl rfl ?_
  refine C.seq ?_
  refine C.region ?_
  refine G.assignB rfl trivial rfl rfl rfl ?_
  refine G.nil ?_
  refine C.seq ?_
  refine C.region ?_
  refine G.moveI rfl trivial rfl rfl rfl ?_
  refine G.addN (j := 1) rfl trivial rfl rfl rfl rfl (by omega) ?_
  refine G.assignI rfl trivial rfl rfl rfl ?_
  refine G.nil ?_
  refine C.seq ?_
  refine C.seq ?_
  refine C.region ?_
  refine G.assignI rfl trivial rfl rfl rfl ?_
  refine G.nil ?_
  refine C.block ?_
  refine C.loop (fun m F D' L' => ∃ (s i0 : Nat) (e : Array Int), m = 5 - s + 0 ∧ s ≤ 5 ∧ a + 1 ≤ i0 ∧ i0 ≤ b ∧ e.size = n ∧ partialIns ltInt a b (5 - s) i0 e = partialInsertionSort ltInt d a b ∧ F 0 = .slice (some ⟨bk, 0, none⟩) n cap ∧ F 1 = .int .i64 (a : Int) ∧ F 2 = .int .i64 (b : Int) ∧ F 7 = .int .i64 (i0 : Int) ∧ F 8 = .int .i64 (s : Int) ∧ D' = [] ∧ u bk (.row (ic (e) rest) te kk) = L') ⟨_, ⟨0, a + 1, d, rfl, by omega, by omega, by omega, hd, rfl, rfl, rfl, rfl, rfl, rfl, rfl, rfl⟩⟩ ?_
  rintro m F D' L' ⟨s, i0, e, rfl, hs, hi3, hi4, he, hpi, h0, h1, h2, h7, h8, rfl, rfl⟩
  refine C.fix (d := 0) h0 ?_
  refine C.fix (d := 1) h1 ?_
  refine C.fix (d := 2) h2 ?_
  refine C.fix (d := 7) h7 ?_
  refine C.fix (d := 8) h8 ?_
  refine C.seq ?_
  refine C.seq ?_
  refine C.region ?_
  refine G.moveI rfl trivial rfl rfl rfl ?_
  refine G.bin rfl trivial rfl rfl rfl rfl rfl ?_
  refine G.nil ?_
  refine C.cond _ rfl ?_ ?_
  · intro hc0
    refine C.skip ?_
    refine C.seq ?_
    refine C.block ?_
    refine C.cut (fun F D' L' => ∃ i : Nat, scanSorted ltInt e b i0 = i ∧ a + 1 ≤ i ∧ i ≤ b ∧ F 0 = .slice (some ⟨bk, 0, none⟩) n cap ∧ F 1 = .int .i64 (a : Int) ∧ F 2 = .int .i64 (b : Int) ∧ F 7 = .int .i64 (i : Int) ∧ F 8 = .int .i64 (s : Int) ∧ D' = [] ∧ u bk (.row (ic (e) rest) te kk) = L') ?_ ?_
    ·
      refine C.block ?_
      refine C.loop (fun m F D' L' => ∃ (i : Nat), m = b - i + 0 ∧ a + 1 ≤ i ∧ i ≤ b ∧ scanSorted ltInt e b i = scanSorted ltInt e b i0 ∧ F 0 = .slice (some ⟨bk, 0, none⟩) n cap ∧ F 1 = .int .i64 (a : Int) ∧ F 2 = .int .i64 (b : Int) ∧ F 7 = .int .i64 (i : Int) ∧ F 8 = .int .i64 (s : Int) ∧ D' = [] ∧ u bk (.row (ic (e) rest) te kk) = L') ⟨_, ⟨i0, rfl, by omega, by omega, rfl, rfl, rfl, rfl, rfl, rfl, rfl, rfl⟩⟩ ?_
      rintro m F D' L' ⟨i, rfl, hi5, hi6, hss, h0, h1, h2, h7, h8, rfl, rfl⟩
      refine C.fix (d := 0) h0 ?_
      refine C.fix (d := 1) h1 ?_
      refine C.fix (d := 2) h2 ?_
      refine C.fix (d := 7) h7 ?_
      refine C.fix (d := 8) h8 ?_
      refine C.seq ?_
      refine C.seq ?_
      refine C.drawn mixed (_) [] (fun _ h => h) ?_
      refine GA.pure (i := 0) (fun _ _ _ _ _ h => h) rfl (by kernel_rfl) trivial rfl rfl (Y.moveI rfl rfl) (#[true, false, false, false, false, false, false, false, false, false, false, false, false, false, false, false]) (by kernel_rfl) ?_
      refine GA.pure (i := 1) (fun _ _ _ _ _ h => h) rfl (by kernel_rfl) trivial rfl rfl (Y.moveI rfl rfl) (#[true, true, false, false, false, false, false, false, false, false, false, false, false, false, false, false]) (by kernel_rfl) ?_
      refine GA.pure (i := 2) (fun _ _ _ _ _ h => h) rfl (by kernel_rfl) trivial rfl rfl (Y.bin rfl rfl rfl rfl) (#[true, true, true, false, false, false, false, false, false, false, false, false, false, false, false, false]) (by kernel_rfl) ?_
      refine GA.pure (i := 3) (fun _ _ _ _ _ h => h) rfl (by kernel_rfl) trivial rfl rfl (Y.moveB rfl rfl) (#[true, true, true, true, false, false, false, false, false, false, false, false, false, false, false, false]) (by kernel_rfl) ?_
      refine GA.fork (t := 20) _ rfl ?_ ?_
      · intro hg20
        refine GA.pure (i := 4) (fun _ _ _ _ _ h => h) rfl (by kernel_rfl) ⟨_, rfl, rfl, rfl⟩ rfl rfl (Y.moveS rfl rfl) (#[true, true, true, true, true, false, false, false, false, false, false, false, false, false, false, false]) (by kernel_rfl) ?_
        refine GA.pure (i := 5) (fun _ _ _ _ _ h => h) rfl (by kernel_rfl) ⟨_, rfl, rfl, rfl⟩ rfl rfl (Y.moveI rfl rfl) (#[true, true, true, true, true, true, false, false, false, false, false, false, false, false, false, false]) (by kernel_rfl) ?_
        refine GA.pure (i := 6) (fun _ _ _ _ _ h => h) rfl (by kernel_rfl) ⟨_, rfl, rfl, rfl⟩ rfl rfl (Y.idxN rfl Try.underlying27 I2 rfl rfl (by omega)) (#[true, true, true, true, true, true, true, false, false, false, false, false, false, false, false, false]) (by kernel_rfl) ?_
        refine GA.read (i := 7) (fun _ _ _ _ _ h => h) rfl (by kernel_rfl) (by kernel_rfl) ⟨_, rfl, rfl, rfl⟩ rfl rfl (Y.ldI (by first | exact ha.again _ | exact .next (ha.again _) | exact .next (.next (ha.again _))) rfl Try.underlying2 rfl rfl (by omega)) (#[true, true, true, true, true, true, true, true, false, false, false, false, false, false, false, false]) (by kernel_rfl) ?_
        refine GA.pure (i := 8) (fun _ _ _ _ _ h => h) rfl (by kernel_rfl) ⟨_, rfl, rfl, rfl⟩ rfl rfl (Y.moveS rfl rfl) (#[true, true, true, true, true, true, true, true, true, false, false, false, false, false, false, false]) (by kernel_rfl) ?_
        refine GA.pure (i := 9) (fun _ _ _ _ _ h => h) rfl (by kernel_rfl) ⟨_, rfl, rfl, rfl⟩ rfl rfl (Y.moveI rfl rfl) (#[true, true, true, true, true, true, true, true, true, true, false, false, false, false, false, false]) (by kernel_rfl) ?_
        refine GA.pure (i := 10) (fun _ _ _ _ _ h => h) rfl (by kernel_rfl) ⟨_, rfl, rfl, rfl⟩ rfl rfl (Y.subN (j := 1) rfl rfl rfl (by omega)) (#[true, true, true, true, true, true, true, true, true, true, true, false, false, false, false, false]) (by kernel_rfl) ?_
        refine GA.pure (i := 11) (fun _ _ _ _ _ h => h) rfl (by kernel_rfl) ⟨_, rfl, rfl, rfl⟩ rfl rfl (Y.idxN rfl Try.underlying27 I2 rfl rfl (by omega)) (#[true, true, true, true, true, true, true, true, true, true, true, true, false, false, false, false]) (by kernel_rfl) ?_
        refine GA.read (i := 12) (fun _ _ _ _ _ h => h) rfl (by kernel_rfl) (by kernel_rfl) ⟨_, rfl, rfl, rfl⟩ rfl rfl (Y.ldI (by first | exact ha.again _ | exact .next (ha.again _) | exact .next (.next (ha.again _))) rfl Try.underlying2 rfl rfl (by omega)) (#[true, true, true, true, true, true, true, true, true, true, true, true, true, false, false, false]) (by kernel_rfl) ?_
        refine GA.one (i := 13) rfl (by kernel_rfl) (#[true, true, true, true, true, true, true, true, true, true, true, true, true, true, false, false]) (by kernel_rfl) ?_
        refine G.call E60 rfl rfl ⟨_, rfl, rfl, rfl⟩ rfl rfl (less_spec W0 _ _ _) rfl ?_
        rintro e L2 ⟨rfl, rfl⟩
        refine G.nil ?_
        refine ⟨fun _ _ h => h, ?_⟩
        first | refine GA.pure (i := 14) (fun _ _ _ _ _ h => h) rfl (by kernel_rfl) ⟨_, rfl, rfl, rfl⟩ rfl rfl (Y.notD rfl rfl) (#[true, true, true, true, true, true, true, true, true, true, true, true, true, true, true, false]) (by kernel_rfl) ?_ | refine GA.pure (i := 14) (fun _ _ _ _ _ h => h) rfl (by kernel_rfl) ⟨_, rfl, rfl, rfl⟩ rfl rfl (Y.not rfl rfl) (#[true, true, true, true, true, true, true, true, true, true, true, true, true, true, true, false]) (by kernel_rfl) ?_
        first | refine GA.pure (i := 15) (fun _ _ _ _ _ h => h) rfl (by kernel_rfl) trivial rfl rfl (Y.pickT rfl rfl rfl) (#[true, true, true, true, true, true, true, true, true, true, true, true, true, true, true, true]) (by kernel_rfl) ?_ | refine GA.pure (i := 15) (fun _ _ _ _ _ h => h) rfl (by kernel_rfl) trivial rfl rfl (Y.pickF rfl rfl rfl) (#[true, true, true, true, true, true, true, true, true, true, true, true, true, true, true, true]) (by kernel_rfl) ?_
        refine GA.done (by kernel_rfl) ?_
        refine C.cond _ rfl ?_ ?_
        · intro hc1
          refine C.skip ?_
          refine C.block ?_
          refine C.region ?_
          refine G.moveI rfl trivial rfl rfl rfl ?_
          refine G.addN (j := 1) rfl trivial rfl rfl rfl rfl (by omega) ?_
          refine G.assignI rfl trivial rfl rfl rfl ?_
          refine G.nil ?_
          exact ⟨b - (i + 1) + 0, by omega, i + 1, rfl, by omega, by omega, by rw [← hss]; exact (scanSorted_go (by omega) hc1).symm, rfl, rfl, rfl, rfl, rfl, rfl, rfl⟩
        · intro hc1
          refine C.exit ?_
          exact ⟨i, by rw [← hss]; exact scanSorted_end (fun hle => by first | exact absurd hle (by omega) | exact Classical.not_not.1 hc1), by omega, by omega, rfl, rfl, rfl, rfl, rfl, rfl, rfl⟩
      · intro hg20
        refine GA.skip (i := 4) (fun _ _ _ _ _ h => h) rfl (by kernel_rfl) rfl rfl rfl rfl rfl rfl (#[true, true, true, true, true, false, false, false, false, false, false, false, false, false, false, false]) (by kernel_rfl) ?_
        refine GA.skip (i := 5) (fun _ _ _ _ _ h => h) rfl (by kernel_rfl) rfl rfl rfl rfl rfl rfl (#[true, true, true, true, true, true, false, false, false, false, false, false, false, false, false, false]) (by kernel_rfl) ?_
        refine GA.skip (i := 6) (fun _ _ _ _ _ h => h) rfl (by kernel_rfl) rfl rfl rfl rfl rfl rfl (#[true, true, true, true, true, true, true, false, false, false, false, false, false, false, false, false]) (by kernel_rfl) ?_
        refine GA.skip (i := 7) (fun _ _ _ _ _ h => h) rfl (by kernel_rfl) rfl rfl rfl rfl rfl rfl (#[true, true, true, true, true, true, true, true, false, false, false, false, false, false, false, false]) (by kernel_rfl) ?_
        refine GA.skip (i := 8) (fun _ _ _ _ _ h => h) rfl (by kernel_rfl) rfl rfl rfl rfl rfl rfl (#[true, true, true, true, true, true, true, true, true, false, false, false, false, false, false, false]) (by kernel_rfl) ?_
        refine GA.skip (i := 9) (fun _ _ _ _ _ h => h) rfl (by kernel_rfl) rfl rfl rfl rfl rfl rfl (#[true, true, true, true, true, true, true, true, true, true, false, false, false, false, false, false]) (by kernel_rfl) ?_
        refine GA.skip (i := 10) (fun _ _ _ _ _ h => h) rfl (by kernel_rfl) rfl rfl rfl rfl rfl rfl (#[true, true, true, true, true, true, true, true, true, true, true, false, false, false, false, false]) (by kernel_rfl) ?_
        refine GA.skip (i := 11) (fun _ _ _ _ _ h => h) rfl (by kernel_rfl) rfl rfl rfl rfl rfl rfl (#[true, true, true, true, true, true, true, true, true, true, true, true, false, false, false, false]) (by kernel_rfl) ?_
        refine GA.skip (i := 12) (fun _ _ _ _ _ h => h) rfl (by kernel_rfl) rfl rfl rfl rfl rfl rfl (#[true, true, true, true, true, true, true, true, true, true, true, true, true, false, false, false]) (by kernel_rfl) ?_
        refine GA.skip (i := 13) (fun _ _ _ _ _ h => h) rfl (by kernel_rfl) rfl rfl rfl rfl rfl rfl (#[true, true, true, true, true, true, true, true, true, true, true, true, true, true, false, false]) (by kernel_rfl) ?_
        refine GA.skip (i := 14) (fun _ _ _ _ _ h => h) rfl (by kernel_rfl) rfl rfl rfl rfl rfl rfl (#[true, true, true, true, true, true, true, true, true, true, true, true, true, true, true, false]) (by kernel_rfl) ?_
        first | refine GA.pure (i := 15) (fun _ _ _ _ _ h => h) rfl (by kernel_rfl) trivial rfl rfl (Y.pickT rfl rfl rfl) (#[true, true, true, true, true, true, true, true, true, true, true, true, true, true, true, true]) (by kernel_rfl) ?_ | refine GA.pure (i := 15) (fun _ _ _ _ _ h => h) rfl (by kernel_rfl) trivial rfl rfl (Y.pickF rfl rfl rfl) (#[true, true, true, true, true, true, true, true, true, true, true, true, true, true, true, true]) (by kernel_rfl) ?_
        refine GA.done (by kernel_rfl) ?_
        refine C.condF rfl ?_
        refine C.exit ?_
        exact ⟨i, by rw [← hss]; exact scanSorted_end (fun hle => by first | exact absurd hle (by omega) | exact Classical.not_not.1 hc1), by omega, by omega, rfl, rfl, rfl, rfl, rfl, rfl, rfl⟩
    ·
      rintro F D' L' ⟨i, hiE, hi5, hi6, h0, h1, h2, h7, h8, rfl, rfl⟩
      refine C.fix (d := 0) h0 ?_
      refine C.fix (d := 1) h1 ?_
      refine C.fix (d := 2) h2 ?_
      refine C.fix (d := 7) h7 ?_
      refine C.fix (d := 8) h8 ?_
      have hlt : s < 5 := by omega
      have hps := partialIns_succ (lt := ltInt) a b (5 - (s + 1)) i0 e
      rw [hiE, show 5 - (s + 1) + 1 = 5 - s by omega, hpi] at hps
      refine C.seq ?_
      refine C.seq ?_
      refine C.region ?_
      refine G.moveI rfl trivial rfl rfl rfl ?_
      refine G.moveI rfl trivial rfl rfl rfl ?_
      refine G.bin rfl trivial rfl rfl rfl rfl rfl ?_
      refine G.nil ?_
      refine C.cond _ rfl ?_ ?_
      · intro hc2
        refine C.seq ?_
        refine C.region ?_
        refine G.assignB rfl trivial rfl rfl rfl ?_
        refine G.nil ?_
        refine C.ret ?_
        -- end c0Tc2T
        rw [if_pos (by omega)] at hps
        exact ⟨rfl, _, Res.of (rs := [.tmp 6]) rfl rfl, by rw [hps], by rw [hps]; rfl⟩
      · intro hc2
        refine C.skip ?_
        refine C.seq ?_
        refine C.seq ?_
        refine C.region ?_
        refine G.moveI rfl trivial rfl rfl rfl ?_
        refine G.moveI rfl trivial rfl rfl rfl ?_
        refine G.subN rfl trivial rfl rfl rfl rfl (by omega) ?_
        refine G.bin rfl trivial rfl rfl rfl rfl rfl ?_
        refine G.nil ?_
        refine C.cond _ rfl ?_ ?_
        · intro hc3
          refine C.seq ?_
          refine C.region ?_
          refine G.assignB rfl trivial rfl rfl rfl ?_
          refine G.nil ?_
          refine C.ret ?_
          -- end c0Tc2Fc3T
          rw [if_neg (by omega), if_pos (by omega)] at hps
          exact ⟨rfl, _, Res.of (rs := [.tmp 6]) rfl rfl, by rw [hps], by rw [hps]; rfl⟩
        · intro hc3
          rw [if_neg (by omega), if_neg (by omega)] at hps
          refine C.skip ?_
          refine C.seq ?_
          refine C.drawn mixed (_) [15, 17] (fun _ h => h) ?_
          refine GA.pure (i := 0) (fun _ _ _ _ _ h => h) rfl (by kernel_rfl) trivial rfl rfl (Y.moveS rfl rfl) (#[true, false, false, false, false, false, false, false, false, false, false, false, false, false, false, false, false, false]) (by kernel_rfl) ?_
          refine GA.pure (i := 1) (fun _ _ _ _ _ h => h) rfl (by kernel_rfl) trivial rfl rfl (Y.moveI rfl rfl) (#[true, true, false, false, false, false, false, false, false, false, false, false, false, false, false, false, false, false]) (by kernel_rfl) ?_
          refine GA.pure (i := 2) (fun _ _ _ _ _ h => h) rfl (by kernel_rfl) trivial rfl rfl (Y.moveS rfl rfl) (#[true, true, true, false, false, false, false, false, false, false, false, false, false, false, false, false, false, false]) (by kernel_rfl) ?_
          refine GA.pure (i := 3) (fun _ _ _ _ _ h => h) rfl (by kernel_rfl) trivial rfl rfl (Y.moveI rfl rfl) (#[true, true, true, true, false, false, false, false, false, false, false, false, false, false, false, false, false, false]) (by kernel_rfl) ?_
          refine GA.pure (i := 4) (fun _ _ _ _ _ h => h) rfl (by kernel_rfl) trivial rfl rfl (Y.subN (j := 1) rfl rfl rfl (by omega)) (#[true, true, true, true, true, false, false, false, false, false, false, false, false, false, false, false, false, false]) (by kernel_rfl) ?_
          refine GA.pure (i := 5) (fun _ _ _ _ _ h => h) rfl (by kernel_rfl) trivial rfl rfl (Y.moveS rfl rfl) (#[true, true, true, true, true, true, false, false, false, false, false, false, false, false, false, false, false, false]) (by kernel_rfl) ?_
          refine GA.pure (i := 6) (fun _ _ _ _ _ h => h) rfl (by kernel_rfl) trivial rfl rfl (Y.moveI rfl rfl) (#[true, true, true, true, true, true, true, false, false, false, false, false, false, false, false, false, false, false]) (by kernel_rfl) ?_
          refine GA.pure (i := 7) (fun _ _ _ _ _ h => h) rfl (by kernel_rfl) trivial rfl rfl (Y.subN (j := 1) rfl rfl rfl (by omega)) (#[true, true, true, true, true, true, true, true, false, false, false, false, false, false, false, false, false, false]) (by kernel_rfl) ?_
          refine GA.pure (i := 8) (fun _ _ _ _ _ h => h) rfl (by kernel_rfl) trivial rfl rfl (Y.idxN rfl Try.underlying27 I2 rfl rfl (by omega)) (#[true, true, true, true, true, true, true, true, true, false, false, false, false, false, false, false, false, false]) (by kernel_rfl) ?_
          refine GA.read (i := 9) (fun _ _ _ _ _ h => h) rfl (by kernel_rfl) (by kernel_rfl) trivial rfl rfl (Y.ldI (by first | exact ha.again _ | exact .next (ha.again _) | exact .next (.next (ha.again _))) rfl Try.underlying2 rfl rfl (by omega)) (#[true, true, true, true, true, true, true, true, true, true, false, false, false, false, false, false, false, false]) (by kernel_rfl) ?_
          refine GA.pure (i := 10) (fun _ _ _ _ _ h => h) rfl (by kernel_rfl) trivial rfl rfl (Y.moveS rfl rfl) (#[true, true, true, true, true, true, true, true, true, true, true, false, false, false, false, false, false, false]) (by kernel_rfl) ?_
          refine GA.pure (i := 11) (fun _ _ _ _ _ h => h) rfl (by kernel_rfl) trivial rfl rfl (Y.moveI rfl rfl) (#[true, true, true, true, true, true, true, true, true, true, true, true, false, false, false, false, false, false]) (by kernel_rfl) ?_
          refine GA.pure (i := 12) (fun _ _ _ _ _ h => h) rfl (by kernel_rfl) trivial rfl rfl (Y.idxN rfl Try.underlying27 I2 rfl rfl (by omega)) (#[true, true, true, true, true, true, true, true, true, true, true, true, true, false, false, false, false, false]) (by kernel_rfl) ?_
          refine GA.read (i := 13) (fun _ _ _ _ _ h => h) rfl (by kernel_rfl) (by kernel_rfl) trivial rfl rfl (Y.ldI (by first | exact ha.again _ | exact .next (ha.again _) | exact .next (.next (ha.again _))) rfl Try.underlying2 rfl rfl (by omega)) (#[true, true, true, true, true, true, true, true, true, true, true, true, true, true, false, false, false, false]) (by kernel_rfl) ?_
          refine GA.pure (i := 14) (fun _ _ _ _ _ h => h) rfl (by kernel_rfl) trivial rfl rfl (Y.idxN rfl Try.underlying27 I2 rfl rfl (by omega)) (#[true, true, true, true, true, true, true, true, true, true, true, true, true, true, true, false, false, false]) (by kernel_rfl) ?_
          refine GA.one (i := 15) rfl (by kernel_rfl) (#[true, true, true, true, true, true, true, true, true, true, true, true, true, true, true, true, false, false]) (by kernel_rfl) ?_
          refine G.stI (by first | exact ha.again _ | exact .next (ha.again _) | exact .next (.next (ha.again _))) rfl trivial rfl I2 rfl rfl (by first | omega | (simp only [Array.size_setIfInBounds]; omega)) ?_
          refine G.nil ?_
          refine ⟨fun _ h => absurd h (by simp [hit]), ?_⟩
          refine GA.pure (i := 16) (fun _ _ _ _ _ h => h) rfl (by kernel_rfl) trivial rfl rfl (Y.idxN rfl Try.underlying27 I2 rfl rfl (by omega)) (#[true, true, true, true, true, true, true, true, true, true, true, true, true, true, true, true, true, false]) (by kernel_rfl) ?_
          refine GA.one (i := 17) rfl (by kernel_rfl) (#[true, true, true, true, true, true, true, true, true, true, true, true, true, true, true, true, true, true]) (by kernel_rfl) ?_
          refine G.stI (by first | exact ha.again _ | exact .next (ha.again _) | exact .next (.next (ha.again _))) rfl trivial rfl I2 rfl rfl (by first | omega | (simp only [Array.size_setIfInBounds]; omega)) ?_
          refine G.nil ?_
          refine ⟨fun _ h => absurd h (by simp [hit]), ?_⟩
          refine GA.done (by kernel_rfl) ?_
          refine C.seq ?_
          refine C.seq ?_
          refine C.region ?_
          refine G.moveI rfl trivial rfl rfl rfl ?_
          refine G.moveI rfl trivial rfl rfl rfl ?_
          refine G.subN rfl trivial rfl rfl rfl rfl (by omega) ?_
          refine G.bin rfl trivial rfl rfl rfl rfl rfl ?_
          refine G.nil ?_
          refine C.cond _ rfl ?_ ?_
          · intro hc4
            refine C.seq ?_
            refine C.region ?_
            refine G.moveI rfl trivial rfl rfl rfl ?_
            refine G.subN (j := 1) rfl trivial rfl rfl rfl rfl (by omega) ?_
            refine G.assignI rfl trivial rfl rfl rfl ?_
            refine G.nil ?_
            refine C.post (fun F D' L' => ∃ e1 : Array Int, e1.size = n ∧ fixDown ltInt a i (swp e i (i - 1)) = e1 ∧ F 0 = .slice (some ⟨bk, 0, none⟩) n cap ∧ F 1 = .int .i64 (a : Int) ∧ F 2 = .int .i64 (b : Int) ∧ F 7 = .int .i64 (i : Int) ∧ F 8 = .int .i64 (s : Int) ∧ D' = [] ∧ u bk (.row (ic (e1) rest) te kk) = L') ?_ ?_
            ·
              refine C.block ?_
              refine C.loop (fun m F D' L' => ∃ (j : Nat) (e1 : Array Int), m = j + 1 ∧ j ≤ i - 1 ∧ e1.size = n ∧ shiftDown ltInt j e1 = shiftDown ltInt (i - 1) (swp e i (i - 1)) ∧ F 9 = .int .i64 (j : Int) ∧ F 0 = .slice (some ⟨bk, 0, none⟩) n cap ∧ F 1 = .int .i64 (a : Int) ∧ F 2 = .int .i64 (b : Int) ∧ F 7 = .int .i64 (i : Int) ∧ F 8 = .int .i64 (s : Int) ∧ D' = [] ∧ u bk (.row (ic (e1) rest) te kk) = L') ⟨_, ⟨i - 1, (swp e i (i - 1)), rfl, by omega, by rw [swp_size]; exact he, rfl, rfl, rfl, rfl, rfl, rfl, rfl, rfl, rfl⟩⟩ ?_
              rintro m F D' L' ⟨j, e1, rfl, hj1, he1, hsd, h9, h0, h1, h2, h7, h8, rfl, rfl⟩
              refine C.fix (d := 0) h0 ?_
              refine C.fix (d := 1) h1 ?_
              refine C.fix (d := 2) h2 ?_
              refine C.fix (d := 7) h7 ?_
              refine C.fix (d := 8) h8 ?_
              refine C.fix (d := 9) h9 ?_
              refine C.seq ?_
              refine C.seq ?_
              refine C.region ?_
              refine G.moveI rfl trivial rfl rfl rfl ?_
              refine G.bin rfl trivial rfl rfl rfl rfl rfl ?_
              refine G.nil ?_
              refine C.cond _ rfl ?_ ?_
              · intro hc5
                refine C.skip ?_
                refine C.seq ?_
                refine C.block ?_
                refine C.seq ?_
                refine C.seq ?_
                refine C.drawn mixed (_) [] (fun _ h => h) ?_
                refine GA.pure (i := 0) (fun _ _ _ _ _ h => h) rfl (by kernel_rfl) trivial rfl rfl (Y.moveS rfl rfl) (#[true, false, false, false, false, false, false, false, false, false, false]) (by kernel_rfl) ?_
                refine GA.pure (i := 1) (fun _ _ _ _ _ h => h) rfl (by kernel_rfl) trivial rfl rfl (Y.moveI rfl rfl) (#[true, true, false, false, false, false, false, false, false, false, false]) (by kernel_rfl) ?_
                refine GA.pure (i := 2) (fun _ _ _ _ _ h => h) rfl (by kernel_rfl) trivial rfl rfl (Y.idxN rfl Try.underlying27 I2 rfl rfl (by omega)) (#[true, true, true, false, false, false, false, false, false, false, false]) (by kernel_rfl) ?_
                refine GA.read (i := 3) (fun _ _ _ _ _ h => h) rfl (by kernel_rfl) (by kernel_rfl) trivial rfl rfl (Y.ldI (by first | exact ha.again _ | exact .next (ha.again _) | exact .next (.next (ha.again _))) rfl Try.underlying2 rfl rfl (by omega)) (#[true, true, true, true, false, false, false, false, false, false, false]) (by kernel_rfl) ?_
                refine GA.pure (i := 4) (fun _ _ _ _ _ h => h) rfl (by kernel_rfl) trivial rfl rfl (Y.moveS rfl rfl) (#[true, true, true, true, true, false, false, false, false, false, false]) (by kernel_rfl) ?_
                refine GA.pure (i := 5) (fun _ _ _ _ _ h => h) rfl (by kernel_rfl) trivial rfl rfl (Y.moveI rfl rfl) (#[true, true, true, true, true, true, false, false, false, false, false]) (by kernel_rfl) ?_
                refine GA.pure (i := 6) (fun _ _ _ _ _ h => h) rfl (by kernel_rfl) trivial rfl rfl (Y.subN (j := 1) rfl rfl rfl (by omega)) (#[true, true, true, true, true, true, true, false, false, false, false]) (by kernel_rfl) ?_
                refine GA.pure (i := 7) (fun _ _ _ _ _ h => h) rfl (by kernel_rfl) trivial rfl rfl (Y.idxN rfl Try.underlying27 I2 rfl rfl (by omega)) (#[true, true, true, true, true, true, true, true, false, false, false]) (by kernel_rfl) ?_
                refine GA.read (i := 8) (fun _ _ _ _ _ h => h) rfl (by kernel_rfl) (by kernel_rfl) trivial rfl rfl (Y.ldI (by first | exact ha.again _ | exact .next (ha.again _) | exact .next (.next (ha.again _))) rfl Try.underlying2 rfl rfl (by omega)) (#[true, true, true, true, true, true, true, true, true, false, false]) (by kernel_rfl) ?_
                refine GA.one (i := 9) rfl (by kernel_rfl) (#[true, true, true, true, true, true, true, true, true, true, false]) (by kernel_rfl) ?_
                refine G.call E60 rfl rfl trivial rfl rfl (less_spec W0 _ _ _) rfl ?_
                rintro e L2 ⟨rfl, rfl⟩
                refine G.nil ?_
                refine ⟨fun _ _ h => h, ?_⟩
                first | refine GA.pure (i := 10) (fun _ _ _ _ _ h => h) rfl (by kernel_rfl) trivial rfl rfl (Y.notD rfl rfl) (#[true, true, true, true, true, true, true, true, true, true, true]) (by kernel_rfl) ?_ | refine GA.pure (i := 10) (fun _ _ _ _ _ h => h) rfl (by kernel_rfl) trivial rfl rfl (Y.not rfl rfl) (#[true, true, true, true, true, true, true, true, true, true, true]) (by kernel_rfl) ?_
                refine GA.done (by kernel_rfl) ?_
                refine C.cond _ rfl ?_ ?_
                · intro hc6
                  refine C.exit ?_
                  exact ⟨e1, he1, by unfold fixDown; rw [if_pos (by omega), ← hsd]; exact shiftDown_end (fun hle => by first | exact absurd hle (by omega) | exact hc6), rfl, rfl, rfl, rfl, rfl, rfl, rfl⟩
                · intro hc6
                  refine C.skip ?_
                  refine C.drawn mixed (_) [15, 17] (fun _ h => h) ?_
                  refine GA.pure (i := 0) (fun _ _ _ _ _ h => h) rfl (by kernel_rfl) trivial rfl rfl (Y.moveS rfl rfl) (#[true, false, false, false, false, false, false, false, false, false, false, false, false, false, false, false, false, false]) (by kernel_rfl) ?_
                  refine GA.pure (i := 1) (fun _ _ _ _ _ h => h) rfl (by kernel_rfl) trivial rfl rfl (Y.moveI rfl rfl) (#[true, true, false, false, false, false, false, false, false, false, false, false, false, false, false, false, false, false]) (by kernel_rfl) ?_
                  refine GA.pure (i := 2) (fun _ _ _ _ _ h => h) rfl (by kernel_rfl) trivial rfl rfl (Y.moveS rfl rfl) (#[true, true, true, false, false, false, false, false, false, false, false, false, false, false, false, false, false, false]) (by kernel_rfl) ?_
                  refine GA.pure (i := 3) (fun _ _ _ _ _ h => h) rfl (by kernel_rfl) trivial rfl rfl (Y.moveI rfl rfl) (#[true, true, true, true, false, false, false, false, false, false, false, false, false, false, false, false, false, false]) (by kernel_rfl) ?_
                  refine GA.pure (i := 4) (fun _ _ _ _ _ h => h) rfl (by kernel_rfl) trivial rfl rfl (Y.subN (j := 1) rfl rfl rfl (by omega)) (#[true, true, true, true, true, false, false, false, false, false, false, false, false, false, false, false, false, false]) (by kernel_rfl) ?_
                  refine GA.pure (i := 5) (fun _ _ _ _ _ h => h) rfl (by kernel_rfl) trivial rfl rfl (Y.moveS rfl rfl) (#[true, true, true, true, true, true, false, false, false, false, false, false, false, false, false, false, false, false]) (by kernel_rfl) ?_
                  refine GA.pure (i := 6) (fun _ _ _ _ _ h => h) rfl (by kernel_rfl) trivial rfl rfl (Y.moveI rfl rfl) (#[true, true, true, true, true, true, true, false, false, false, false, false, false, false, false, false, false, false]) (by kernel_rfl) ?_
                  refine GA.pure (i := 7) (fun _ _ _ _ _ h => h) rfl (by kernel_rfl) trivial rfl rfl (Y.subN (j := 1) rfl rfl rfl (by omega)) (#[true, true, true, true, true, true, true, true, false, false, false, false, false, false, false, false, false, false]) (by kernel_rfl) ?_
                  refine GA.pure (i := 8) (fun _ _ _ _ _ h => h) rfl (by kernel_rfl) trivial rfl rfl (Y.idxN rfl Try.underlying27 I2 rfl rfl (by omega)) (#[true, true, true, true, true, true, true, true, true, false, false, false, false, false, false, false, false, false]) (by kernel_rfl) ?_
                  refine GA.read (i := 9) (fun _ _ _ _ _ h => h) rfl (by kernel_rfl) (by kernel_rfl) trivial rfl rfl (Y.ldI (by first | exact ha.again _ | exact .next (ha.again _) | exact .next (.next (ha.again _))) rfl Try.underlying2 rfl rfl (by omega)) (#[true, true, true, true, true, true, true, true, true, true, false, false, false, false, false, false, false, false]) (by kernel_rfl) ?_
                  refine GA.pure (i := 10) (fun _ _ _ _ _ h => h) rfl (by kernel_rfl) trivial rfl rfl (Y.moveS rfl rfl) (#[true, true, true, true, true, true, true, true, true, true, true, false, false, false, false, false, false, false]) (by kernel_rfl) ?_
                  refine GA.pure (i := 11) (fun _ _ _ _ _ h => h) rfl (by kernel_rfl) trivial rfl rfl (Y.moveI rfl rfl) (#[true, true, true, true, true, true, true, true, true, true, true, true, false, false, false, false, false, false]) (by kernel_rfl) ?_
                  refine GA.pure (i := 12) (fun _ _ _ _ _ h => h) rfl (by kernel_rfl) trivial rfl rfl (Y.idxN rfl Try.underlying27 I2 rfl rfl (by omega)) (#[true, true, true, true, true, true, true, true, true, true, true, true, true, false, false, false, false, false]) (by kernel_rfl) ?_
                  refine GA.read (i := 13) (fun _ _ _ _ _ h => h) rfl (by kernel_rfl) (by kernel_rfl) trivial rfl rfl (Y.ldI (by first | exact ha.again _ | exact .next (ha.again _) | exact .next (.next (ha.again _))) rfl Try.underlying2 rfl rfl (by omega)) (#[true, true, true, true, true, true, true, true, true, true, true, true, true, true, false, false, false, false]) (by kernel_rfl) ?_
                  refine GA.pure (i := 14) (fun _ _ _ _ _ h => h) rfl (by kernel_rfl) trivial rfl rfl (Y.idxN rfl Try.underlying27 I2 rfl rfl (by omega)) (#[true, true, true, true, true, true, true, true, true, true, true, true, true, true, true, false, false, false]) (by kernel_rfl) ?_
                  refine GA.one (i := 15) rfl (by kernel_rfl) (#[true, true, true, true, true, true, true, true, true, true, true, true, true, true, true, true, false, false]) (by kernel_rfl) ?_
                  refine G.stI (by first | exact ha.again _ | exact .next (ha.again _) | exact .next (.next (ha.again _))) rfl trivial rfl I2 rfl rfl (by first | omega | (simp only [Array.size_setIfInBounds]; omega)) ?_
                  refine G.nil ?_
                  refine ⟨fun _ h => absurd h (by simp [hit]), ?_⟩
                  refine GA.pure (i := 16) (fun _ _ _ _ _ h => h) rfl (by kernel_rfl) trivial rfl rfl (Y.idxN rfl Try.underlying27 I2 rfl rfl (by omega)) (#[true, true, true, true, true, true, true, true, true, true, true, true, true, true, true, true, true, false]) (by kernel_rfl) ?_
                  refine GA.one (i := 17) rfl (by kernel_rfl) (#[true, true, true, true, true, true, true, true, true, true, true, true, true, true, true, true, true, true]) (by kernel_rfl) ?_
                  refine G.stI (by first | exact ha.again _ | exact .next (ha.again _) | exact .next (.next (ha.again _))) rfl trivial rfl I2 rfl rfl (by first | omega | (simp only [Array.size_setIfInBounds]; omega)) ?_
                  refine G.nil ?_
                  refine ⟨fun _ h => absurd h (by simp [hit]), ?_⟩
                  refine GA.done (by kernel_rfl) ?_
                  refine C.region ?_
                  refine G.moveI rfl trivial rfl rfl rfl ?_
                  refine G.subN (j := 1) rfl trivial rfl rfl rfl rfl (by omega) ?_
                  refine G.assignI rfl trivial rfl rfl rfl ?_
                  refine G.nil ?_
                  exact ⟨j - 1 + 1, by omega, j - 1, swp e1 j (j - 1), rfl, by omega, by rw [swp_size]; exact he1, by rw [← hsd]; exact (shiftDown_go (by omega) (Classical.not_not.1 hc6)).symm, rfl, rfl, rfl, rfl, rfl, rfl, rfl, rfl⟩
              · intro hc5
                refine C.exit ?_
                exact ⟨e1, he1, by unfold fixDown; rw [if_pos (by omega), ← hsd]; exact shiftDown_end (fun hle => by first | exact absurd hle (by omega) | exact hc6), rfl, rfl, rfl, rfl, rfl, rfl, rfl⟩
            ·
              rintro F D' L' ⟨e1, he1, hfd, h0, h1, h2, h7, h8, rfl, rfl⟩
              refine C.fix (d := 0) h0 ?_
              refine C.fix (d := 1) h1 ?_
              refine C.fix (d := 2) h2 ?_
              refine C.fix (d := 7) h7 ?_
              refine C.fix (d := 8) h8 ?_
              refine C.seq ?_
              refine C.region ?_
              refine G.moveI rfl trivial rfl rfl rfl ?_
              refine G.moveI rfl trivial rfl rfl rfl ?_
              refine G.subN rfl trivial rfl rfl rfl rfl (by omega) ?_
              refine G.bin rfl trivial rfl rfl rfl rfl rfl ?_
              refine G.nil ?_
              refine C.cond _ rfl ?_ ?_
              · intro hc7
                refine C.seq ?_
                refine C.region ?_
                refine G.moveI rfl trivial rfl rfl rfl ?_
                refine G.addN (j := 1) rfl trivial rfl rfl rfl rfl (by omega) ?_
                refine G.assignI rfl trivial rfl rfl rfl ?_
                refine G.nil ?_
                refine C.post (fun F D' L' => ∃ e2 : Array Int, e2.size = n ∧ fixUp ltInt b i e1 = e2 ∧ F 0 = .slice (some ⟨bk, 0, none⟩) n cap ∧ F 1 = .int .i64 (a : Int) ∧ F 2 = .int .i64 (b : Int) ∧ F 7 = .int .i64 (i : Int) ∧ F 8 = .int .i64 (s : Int) ∧ D' = [] ∧ u bk (.row (ic (e2) rest) te kk) = L') ?_ ?_
                ·
                  refine C.block ?_
                  refine C.loop (fun m F D' L' => ∃ (j : Nat) (e2 : Array Int), m = b - j + 0 ∧ i + 1 ≤ j ∧ j ≤ b ∧ e2.size = n ∧ shiftUp ltInt b j e2 = shiftUp ltInt b (i + 1) e1 ∧ F 10 = .int .i64 (j : Int) ∧ F 0 = .slice (some ⟨bk, 0, none⟩) n cap ∧ F 1 = .int .i64 (a : Int) ∧ F 2 = .int .i64 (b : Int) ∧ F 7 = .int .i64 (i : Int) ∧ F 8 = .int .i64 (s : Int) ∧ D' = [] ∧ u bk (.row (ic (e2) rest) te kk) = L') ⟨_, ⟨i + 1, e1, rfl, by omega, by omega, he1, rfl, rfl, rfl, rfl, rfl, rfl, rfl, rfl, rfl⟩⟩ ?_
                  rintro m F D' L' ⟨j, e2, rfl, hj1, hj2, he2, hsu, h10, h0, h1, h2, h7, h8, rfl, rfl⟩
                  refine C.fix (d := 0) h0 ?_
                  refine C.fix (d := 1) h1 ?_
                  refine C.fix (d := 2) h2 ?_
                  refine C.fix (d := 7) h7 ?_
                  refine C.fix (d := 8) h8 ?_
                  refine C.fix (d := 10) h10 ?_
                  refine C.seq ?_
                  refine C.seq ?_
                  refine C.region ?_
                  refine G.moveI rfl trivial rfl rfl rfl ?_
                  refine G.moveI rfl trivial rfl rfl rfl ?_
                  refine G.bin rfl trivial rfl rfl rfl rfl rfl ?_
                  refine G.nil ?_
                  refine C.cond _ rfl ?_ ?_
                  · intro hc8
                    refine C.skip ?_
                    refine C.seq ?_
                    refine C.block ?_
                    refine C.seq ?_
                    refine C.seq ?_
                    refine C.drawn mixed (_) [] (fun _ h => h) ?_
                    refine GA.pure (i := 0) (fun _ _ _ _ _ h => h) rfl (by kernel_rfl) trivial rfl rfl (Y.moveS rfl rfl) (#[true, false, false, false, false, false, false, false, false, false, false]) (by kernel_rfl) ?_
                    refine GA.pure (i := 1) (fun _ _ _ _ _ h => h) rfl (by kernel_rfl) trivial rfl rfl (Y.moveI rfl rfl) (#[true, true, false, false, false, false, false, false, false, false, false]) (by kernel_rfl) ?_
                    refine GA.pure (i := 2) (fun _ _ _ _ _ h => h) rfl (by kernel_rfl) trivial rfl rfl (Y.idxN rfl Try.underlying27 I2 rfl rfl (by omega)) (#[true, true, true, false, false, false, false, false, false, false, false]) (by kernel_rfl) ?_
                    refine GA.read (i := 3) (fun _ _ _ _ _ h => h) rfl (by kernel_rfl) (by kernel_rfl) trivial rfl rfl (Y.ldI (by first | exact ha.again _ | exact .next (ha.again _) | exact .next (.next (ha.again _))) rfl Try.underlying2 rfl rfl (by omega)) (#[true, true, true, true, false, false, false, false, false, false, false]) (by kernel_rfl) ?_
                    refine GA.pure (i := 4) (fun _ _ _ _ _ h => h) rfl (by kernel_rfl) trivial rfl rfl (Y.moveS rfl rfl) (#[true, true, true, true, true, false, false, false, false, false, false]) (by kernel_rfl) ?_
                    refine GA.pure (i := 5) (fun _ _ _ _ _ h => h) rfl (by kernel_rfl) trivial rfl rfl (Y.moveI rfl rfl) (#[true, true, true, true, true, true, false, false, false, false, false]) (by kernel_rfl) ?_
                    refine GA.pure (i := 6) (fun _ _ _ _ _ h => h) rfl (by kernel_rfl) trivial rfl rfl (Y.subN (j := 1) rfl rfl rfl (by omega)) (#[true, true, true, true, true, true, true, false, false, false, false]) (by kernel_rfl) ?_
                    refine GA.pure (i := 7) (fun _ _ _ _ _ h => h) rfl (by kernel_rfl) trivial rfl rfl (Y.idxN rfl Try.underlying27 I2 rfl rfl (by omega)) (#[true, true, true, true, true, true, true, true, false, false, false]) (by kernel_rfl) ?_
                    refine GA.read (i := 8) (fun _ _ _ _ _ h => h) rfl (by kernel_rfl) (by kernel_rfl) trivial rfl rfl (Y.ldI (by first | exact ha.again _ | exact .next (ha.again _) | exact .next (.next (ha.again _))) rfl Try.underlying2 rfl rfl (by omega)) (#[true, true, true, true, true, true, true, true, true, false, false]) (by kernel_rfl) ?_
                    refine GA.one (i := 9) rfl (by kernel_rfl) (#[true, true, true, true, true, true, true, true, true, true, false]) (by kernel_rfl) ?_
                    refine G.call E60 rfl rfl trivial rfl rfl (less_spec W0 _ _ _) rfl ?_
                    rintro e L2 ⟨rfl, rfl⟩
                    refine G.nil ?_
                    refine ⟨fun _ _ h => h, ?_⟩
                    first | refine GA.pure (i := 10) (fun _ _ _ _ _ h => h) rfl (by kernel_rfl) trivial rfl rfl (Y.notD rfl rfl) (#[true, true, true, true, true, true, true, true, true, true, true]) (by kernel_rfl) ?_ | refine GA.pure (i := 10) (fun _ _ _ _ _ h => h) rfl (by kernel_rfl) trivial rfl rfl (Y.not rfl rfl) (#[true, true, true, true, true, true, true, true, true, true, true]) (by kernel_rfl) ?_
                    refine GA.done (by kernel_rfl) ?_
                    refine C.cond _ rfl ?_ ?_
                    · intro hc9
                      refine C.exit ?_
                      exact ⟨e2, he2, by unfold fixUp; rw [if_pos (by omega), ← hsu]; exact shiftUp_end (fun hle => by first | exact absurd hle (by omega) | exact hc9), rfl, rfl, rfl, rfl, rfl, rfl, rfl⟩
                    · intro hc9
                      refine C.skip ?_
                      refine C.drawn mixed (_) [15, 17] (fun _ h => h) ?_
                      refine GA.pure (i := 0) (fun _ _ _ _ _ h => h) rfl (by kernel_rfl) trivial rfl rfl (Y.moveS rfl rfl) (#[true, false, false, false, false, false, false, false, false, false, false, false, false, false, false, false, false, false]) (by kernel_rfl) ?_
                      refine GA.pure (i := 1) (fun _ _ _ _ _ h => h) rfl (by kernel_rfl) trivial rfl rfl (Y.moveI rfl rfl) (#[true, true, false, false, false, false, false, false, false, false, false, false, false, false, false, false, false, false]) (by kernel_rfl) ?_
                      refine GA.pure (i := 2) (fun _ _ _ _ _ h => h) rfl (by kernel_rfl) trivial rfl rfl (Y.moveS rfl rfl) (#[true, true, true, false, false, false, false, false, false, false, false, false, false, false, false, false, false, false]) (by kernel_rfl) ?_
                      refine GA.pure (i := 3) (fun _ _ _ _ _ h => h) rfl (by kernel_rfl) trivial rfl rfl (Y.moveI rfl rfl) (#[true, true, true, true, false, false, false, false, false, false, false, false, false, false, false, false, false, false]) (by kernel_rfl) ?_
                      refine GA.pure (i := 4) (fun _ _ _ _ _ h => h) rfl (by kernel_rfl) trivial rfl rfl (Y.subN (j := 1) rfl rfl rfl (by omega)) (#[true, true, true, true, true, false, false, false, false, false, false, false, false, false, false, false, false, false]) (by kernel_rfl) ?_
                      refine GA.pure (i := 5) (fun _ _ _ _ _ h => h) rfl (by kernel_rfl) trivial rfl rfl (Y.moveS rfl rfl) (#[true, true, true, true, true, true, false, false, false, false, false, false, false, false, false, false, false, false]) (by kernel_rfl) ?_
                      refine GA.pure (i := 6) (fun _ _ _ _ _ h => h) rfl (by kernel_rfl) trivial rfl rfl (Y.moveI rfl rfl) (#[true, true, true, true, true, true, true, false, false, false, false, false, false, false, false, false, false, false]) (by kernel_rfl) ?_
                      refine GA.pure (i := 7) (fun _ _ _ _ _ h => h) rfl (by kernel_rfl) trivial rfl rfl (Y.subN (j := 1) rfl rfl rfl (by omega)) (#[true, true, true, true, true, true, true, true, false, false, false, false, false, false, false, false, false, false]) (by kernel_rfl) ?_
                      refine GA.pure (i := 8) (fun _ _ _ _ _ h => h) rfl (by kernel_rfl) trivial rfl rfl (Y.idxN rfl Try.underlying27 I2 rfl rfl (by omega)) (#[true, true, true, true, true, true, true, true, true, false, false, false, false, false, false, false, false, false]) (by kernel_rfl) ?_
                      refine GA.read (i := 9) (fun _ _ _ _ _ h => h) rfl (by kernel_rfl) (by kernel_rfl) trivial rfl rfl (Y.ldI (by first | exact ha.again _ | exact .next (ha.again _) | exact .next (.next (ha.again _))) rfl Try.underlying2 rfl rfl (by omega)) (#[true, true, true, true, true, true, true, true, true, true, false, false, false, false, false, false, false, false]) (by kernel_rfl) ?_
                      refine GA.pure (i := 10) (fun _ _ _ _ _ h => h) rfl (by kernel_rfl) trivial rfl rfl (Y.moveS rfl rfl) (#[true, true, true, true, true, true, true, true, true, true, true, false, false, false, false, false, false, false]) (by kernel_rfl) ?_
                      refine GA.pure (i := 11) (fun _ _ _ _ _ h => h) rfl (by kernel_rfl) trivial rfl rfl (Y.moveI rfl rfl) (#[true, true, true, true, true, true, true, true, true, true, true, true, false, false, false, false, false, false]) (by kernel_rfl) ?_
                      refine GA.pure (i := 12) (fun _ _ _ _ _ h => h) rfl (by kernel_rfl) trivial rfl rfl (Y.idxN rfl Try.underlying27 I2 rfl rfl (by omega)) (#[true, true, true, true, true, true, true, true, true, true, true, true, true, false, false, false, false, false]) (by kernel_rfl) ?_
                      refine GA.read (i := 13) (fun _ _ _ _ _ h => h) rfl (by kernel_rfl) (by kernel_rfl) trivial rfl rfl (Y.ldI (by first | exact ha.again _ | exact .next (ha.again _) | exact .next (.next (ha.again _))) rfl Try.underlying2 rfl rfl (by omega)) (#[true, true, true, true, true, true, true, true, true, true, true, true, true, true, false, false, false, false]) (by kernel_rfl) ?_
                      refine GA.pure (i := 14) (fun _ _ _ _ _ h => h) rfl (by kernel_rfl) trivial rfl rfl (Y.idxN rfl Try.underlying27 I2 rfl rfl (by omega)) (#[true, true, true, true, true, true, true, true, true, true, true, true, true, true, true, false, false, false]) (by kernel_rfl) ?_
                      refine GA.one (i := 15) rfl (by kernel_rfl) (#[true, true, true, true, true, true, true, true, true, true, true, true, true, true, true, true, false, false]) (by kernel_rfl) ?_
                      refine G.stI (by first | exact ha.again _ | exact .next (ha.again _) | exact .next (.next (ha.again _))) rfl trivial rfl I2 rfl rfl (by first | omega | (simp only [Array.size_setIfInBounds]; omega)) ?_
                      refine G.nil ?_
                      refine ⟨fun _ h => absurd h (by simp [hit]), ?_⟩
                      refine GA.pure (i := 16) (fun _ _ _ _ _ h => h) rfl (by kernel_rfl) trivial rfl rfl (Y.idxN rfl Try.underlying27 I2 rfl rfl (by omega)) (#[true, true, true, true, true, true, true, true, true, true, true, true, true, true, true, true, true, false]) (by kernel_rfl) ?_
                      refine GA.one (i := 17) rfl (by kernel_rfl) (#[true, true, true, true, true, true, true, true, true, true, true, true, true, true, true, true, true, true]) (by kernel_rfl) ?_
                      refine G.stI (by first | exact ha.again _ | exact .next (ha.again _) | exact .next (.next (ha.again _))) rfl trivial rfl I2 rfl rfl (by first | omega | (simp only [Array.size_setIfInBounds]; omega)) ?_
                      refine G.nil ?_
                      refine ⟨fun _ h => absurd h (by simp [hit]), ?_⟩
                      refine GA.done (by kernel_rfl) ?_
                      refine C.region ?_
                      refine G.moveI rfl trivial rfl rfl rfl ?_
                      refine G.addN (j := 1) rfl trivial rfl rfl rfl rfl (by omega) ?_
                      refine G.assignI rfl trivial rfl rfl rfl ?_
                      refine G.nil ?_
                      exact ⟨b - (j + 1) + 0, by omega, j + 1, swp e2 j (j - 1), rfl, by omega, by omega, by rw [swp_size]; exact he2, by rw [← hsu]; exact (shiftUp_go (by omega) (Classical.not_not.1 hc9)).symm, rfl, rfl, rfl, rfl, rfl, rfl, rfl, rfl⟩
                  · intro hc8
                    refine C.exit ?_
                    exact ⟨e2, he2, by unfold fixUp; rw [if_pos (by omega), ← hsu]; exact shiftUp_end (fun hle => by first | exact absurd hle (by omega) | exact hc9), rfl, rfl, rfl, rfl, rfl, rfl, rfl⟩
                ·
                  rintro F D' L' ⟨e2, he2, hfu, h0, h1, h2, h7, h8, rfl, rfl⟩
                  refine C.fix (d := 0) h0 ?_
                  refine C.fix (d := 1) h1 ?_
                  refine C.fix (d := 2) h2 ?_
                  refine C.fix (d := 7) h7 ?_
                  refine C.fix (d := 8) h8 ?_
                  refine C.region ?_
                  refine G.moveI rfl trivial rfl rfl rfl ?_
                  refine G.addN (j := 1) rfl trivial rfl rfl rfl rfl (by omega) ?_
                  refine G.assignI rfl trivial rfl rfl rfl ?_
                  refine G.nil ?_
                  exact ⟨5 - (s + 1) + 0, by omega, s + 1, i, e2, rfl, by omega, by omega, by omega, he2, by rw [hps, hfd, hfu], rfl, rfl, rfl, rfl, rfl, rfl, rfl⟩
              · intro hc7
                obtain ⟨e2, hfu⟩ : ∃ e2, fixUp ltInt b i e1 = e2 := ⟨_, rfl⟩
                have hq2 : fixUp ltInt b i e1 = e1 := by unfold fixUp; rw [if_neg (by omega)]
                have he2 : e2.size = n := by rw [← hfu, hq2]; exact he1
                refine C.less (L' := u bk (.row (ic e2 rest) te kk)) (fun _ h => by rw [← hfu, hq2]; exact h) ?_
                refine C.skip ?_
                refine C.region ?_
                refine G.moveI rfl trivial rfl rfl rfl ?_
                refine G.addN (j := 1) rfl trivial rfl rfl rfl rfl (by omega) ?_
                refine G.assignI rfl trivial rfl rfl rfl ?_
                refine G.nil ?_
                exact ⟨5 - (s + 1) + 0, by omega, s + 1, i, e2, rfl, by omega, by omega, by omega, he2, by rw [hps, hfd, hfu], rfl, rfl, rfl, rfl, rfl, rfl, rfl⟩
          · intro hc4
            obtain ⟨e1, hfd⟩ : ∃ e1, fixDown ltInt a i (swp e i (i - 1)) = e1 := ⟨_, rfl⟩
            have hq : fixDown ltInt a i (swp e i (i - 1)) = (swp e i (i - 1)) := by unfold fixDown; rw [if_neg (by omega)]
            have he1 : e1.size = n := by rw [← hfd, hq, swp_size]; exact he
            refine C.less (L' := u bk (.row (ic e1 rest) te kk)) (fun _ h => by rw [← hfd, hq]; exact h) ?_
            refine C.skip ?_
            refine C.seq ?_
            refine C.region ?_
            refine G.moveI rfl trivial rfl rfl rfl ?_
            refine G.moveI rfl trivial rfl rfl rfl ?_
            refine G.subN rfl trivial rfl rfl rfl rfl (by omega) ?_
            refine G.bin rfl trivial rfl rfl rfl rfl rfl ?_
            refine G.nil ?_
            refine C.cond _ rfl ?_ ?_
            · intro hc7
              refine C.seq ?_
              refine C.region ?_
              refine G.moveI rfl trivial rfl rfl rfl ?_
              refine G.addN (j := 1) rfl trivial rfl rfl rfl rfl (by omega) ?_
              refine G.assignI rfl trivial rfl rfl rfl ?_
              refine G.nil ?_
              refine C.post (fun F D' L' => ∃ e2 : Array Int, e2.size = n ∧ fixUp ltInt b i e1 = e2 ∧ F 0 = .slice (some ⟨bk, 0, none⟩) n cap ∧ F 1 = .int .i64 (a : Int) ∧ F 2 = .int .i64 (b : Int) ∧ F 7 = .int .i64 (i : Int) ∧ F 8 = .int .i64 (s : Int) ∧ D' = [] ∧ u bk (.row (ic (e2) rest) te kk) = L') ?_ ?_
              ·
                refine C.block ?_
                refine C.loop (fun m F D' L' => ∃ (j : Nat) (e2 : Array Int), m = b - j + 0 ∧ i + 1 ≤ j ∧ j ≤ b ∧ e2.size = n ∧ shiftUp ltInt b j e2 = shiftUp ltInt b (i + 1) e1 ∧ F 10 = .int .i64 (j : Int) ∧ F 0 = .slice (some ⟨bk, 0, none⟩) n cap ∧ F 1 = .int .i64 (a : Int) ∧ F 2 = .int .i64 (b : Int) ∧ F 7 = .int .i64 (i : Int) ∧ F 8 = .int .i64 (s : Int) ∧ D' = [] ∧ u bk (.row (ic (e2) rest) te kk) = L') ⟨_, ⟨i + 1, e1, rfl, by omega, by omega, he1, rfl, rfl, rfl, rfl, rfl, rfl, rfl, rfl, rfl⟩⟩ ?_
                rintro m F D' L' ⟨j, e2, rfl, hj1, hj2, he2, hsu, h10, h0, h1, h2, h7, h8, rfl, rfl⟩
                refine C.fix (d := 0) h0 ?_
                refine C.fix (d := 1) h1 ?_
                refine C.fix (d := 2) h2 ?_
                refine C.fix (d := 7) h7 ?_
                refine C.fix (d := 8) h8 ?_
                refine C.fix (d := 10) h10 ?_
                refine C.seq ?_
                refine C.seq ?_
                refine C.region ?_
                refine G.moveI rfl trivial rfl rfl rfl ?_
                refine G.moveI rfl trivial rfl rfl rfl ?_
                refine G.bin rfl trivial rfl rfl rfl rfl rfl ?_
                refine G.nil ?_
                refine C.cond _ rfl ?_ ?_
                · intro hc8
                  refine C.skip ?_
                  refine C.seq ?_
                  refine C.block ?_
                  refine C.seq ?_
                  refine C.seq ?_
                  refine C.drawn mixed (_) [] (fun _ h => h) ?_
                  refine GA.pure (i := 0) (fun _ _ _ _ _ h => h) rfl (by kernel_rfl) trivial rfl rfl (Y.moveS rfl rfl) (#[true, false, false, false, false, false, false, false, false, false, false]) (by kernel_rfl) ?_
                  refine GA.pure (i := 1) (fun _ _ _ _ _ h => h) rfl (by kernel_rfl) trivial rfl rfl (Y.moveI rfl rfl) (#[true, true, false, false, false, false, false, false, false, false, false]) (by kernel_rfl) ?_
                  refine GA.pure (i := 2) (fun _ _ _ _ _ h => h) rfl (by kernel_rfl) trivial rfl rfl (Y.idxN rfl Try.underlying27 I2 rfl rfl (by omega)) (#[true, true, true, false, false, false, false, false, false, false, false]) (by kernel_rfl) ?_
                  refine GA.read (i := 3) (fun _ _ _ _ _ h => h) rfl (by kernel_rfl) (by kernel_rfl) trivial rfl rfl (Y.ldI (by first | exact ha.again _ | exact .next (ha.again _) | exact .next (.next (ha.again _))) rfl Try.underlying2 rfl rfl (by omega)) (#[true, true, true, true, false, false, false, false, false, false, false]) (by kernel_rfl) ?_
                  refine GA.pure (i := 4) (fun _ _ _ _ _ h => h) rfl (by kernel_rfl) trivial rfl rfl (Y.moveS rfl rfl) (#[true, true, true, true, true, false, false, false, false, false, false]) (by kernel_rfl) ?_
                  refine GA.pure (i := 5) (fun _ _ _ _ _ h => h) rfl (by kernel_rfl) trivial rfl rfl (Y.moveI rfl rfl) (#[true, true, true, true, true, true, false, false, false, false, false]) (by kernel_rfl) ?_
                  refine GA.pure (i := 6) (fun _ _ _ _ _ h => h) rfl (by kernel_rfl) trivial rfl rfl (Y.subN (j := 1) rfl rfl rfl (by omega)) (#[true, true, true, true, true, true, true, false, false, false, false]) (by kernel_rfl) ?_
                  refine GA.pure (i := 7) (fun _ _ _ _ _ h => h) rfl (by kernel_rfl) trivial rfl rfl (Y.idxN rfl Try.underlying27 I2 rfl rfl (by omega)) (#[true, true, true, true, true, true, true, true, false, false, false]) (by kernel_rfl) ?_
                  refine GA.read (i := 8) (fun _ _ _ _ _ h => h) rfl (by kernel_rfl) (by kernel_rfl) trivial rfl rfl (Y.ldI (by first | exact ha.again _ | exact .next (ha.again _) | exact .next (.next (ha.again _))) rfl Try.underlying2 rfl rfl (by omega)) (#[true, true, true, true, true, true, true, true, true, false, false]) (by kernel_rfl) ?_
                  refine GA.one (i := 9) rfl (by kernel_rfl) (#[true, true, true, true, true, true, true, true, true, true, false]) (by kernel_rfl) ?_
                  refine G.call E60 rfl rfl trivial rfl rfl (less_spec W0 _ _ _) rfl ?_
                  rintro e L2 ⟨rfl, rfl⟩
                  refine G.nil ?_
                  refine ⟨fun _ _ h => h, ?_⟩
                  first | refine GA.pure (i := 10) (fun _ _ _ _ _ h => h) rfl (by kernel_rfl) trivial rfl rfl (Y.notD rfl rfl) (#[true, true, true, true, true, true, true, true, true, true, true]) (by kernel_rfl) ?_ | refine GA.pure (i := 10) (fun _ _ _ _ _ h => h) rfl (by kernel_rfl) trivial rfl rfl (Y.not rfl rfl) (#[true, true, true, true, true, true, true, true, true, true, true]) (by kernel_rfl) ?_
                  refine GA.done (by kernel_rfl) ?_
                  refine C.cond _ rfl ?_ ?_
                  · intro hc9
                    refine C.exit ?_
                    exact ⟨e2, he2, by unfold fixUp; rw [if_pos (by omega), ← hsu]; exact shiftUp_end (fun hle => by first | exact absurd hle (by omega) | exact hc9), rfl, rfl, rfl, rfl, rfl, rfl, rfl⟩
                  · intro hc9
                    refine C.skip ?_
                    refine C.drawn mixed (_) [15, 17] (fun _ h => h) ?_
                    refine GA.pure (i := 0) (fun _ _ _ _ _ h => h) rfl (by kernel_rfl) trivial rfl rfl (Y.moveS rfl rfl) (#[true, false, false, false, false, false, false, false, false, false, false, false, false, false, false, false, false, false]) (by kernel_rfl) ?_
                    refine GA.pure (i := 1) (fun _ _ _ _ _ h => h) rfl (by kernel_rfl) trivial rfl rfl (Y.moveI rfl rfl) (#[true, true, false, false, false, false, false, false, false, false, false, false, false, false, false, false, false, false]) (by kernel_rfl) ?_
                    refine GA.pure (i := 2) (fun _ _ _ _ _ h => h) rfl (by kernel_rfl) trivial rfl rfl (Y.moveS rfl rfl) (#[true, true, true, false, false, false, false, false, false, false, false, false, false, false, false, false, false, false]) (by kernel_rfl) ?_
                    refine GA.pure (i := 3) (fun _ _ _ _ _ h => h) rfl (by kernel_rfl) trivial rfl rfl (Y.moveI rfl rfl) (#[true, true, true, true, false, false, false, false, false, false, false, false, false, false, false, false, false, false]) (by kernel_rfl) ?_
                    refine GA.pure (i := 4) (fun _ _ _ _ _ h => h) rfl (by kernel_rfl) trivial rfl rfl (Y.subN (j := 1) rfl rfl rfl (by omega)) (#[true, true, true, true, true, false, false, false, false, false, false, false, false, false, false, false, false, false]) (by kernel_rfl) ?_
                    refine GA.pure (i := 5) (fun _ _ _ _ _ h => h) rfl (by kernel_rfl) trivial rfl rfl (Y.moveS rfl rfl) (#[true, true, true, true, true, true, false, false, false, false, false, false, false, false, false, false, false, false]) (by kernel_rfl) ?_
                    refine GA.pure (i := 6) (fun _ _ _ _ _ h => h) rfl (by kernel_rfl) trivial rfl rfl (Y.moveI rfl rfl) (#[true, true, true, true, true, true, true, false, false, false, false, false, false, false, false, false, false, false]) (by kernel_rfl) ?_
                    refine GA.pure (i := 7) (fun _ _ _ _ _ h => h) rfl (by kernel_rfl) trivial rfl rfl (Y.subN (j := 1) rfl rfl rfl (by omega)) (#[true, true, true, true, true, true, true, true, false, false, false, false, false, false, false, false, false, false]) (by kernel_rfl) ?_
                    refine GA.pure (i := 8) (fun _ _ _ _ _ h => h) rfl (by kernel_rfl) trivial rfl rfl (Y.idxN rfl Try.underlying27 I2 rfl rfl (by omega)) (#[true, true, true, true, true, true, true, true, true, false, false, false, false, false, false, false, false, false]) (by kernel_rfl) ?_
                    refine GA.read (i := 9) (fun _ _ _ _ _ h => h) rfl (by kernel_rfl) (by kernel_rfl) trivial rfl rfl (Y.ldI (by first | exact ha.again _ | exact .next (ha.again _) | exact .next (.next (ha.again _))) rfl Try.underlying2 rfl rfl (by omega)) (#[true, true, true, true, true, true, true, true, true, true, false, false, false, false, false, false, false, false]) (by kernel_rfl) ?_
                    refine GA.pure (i := 10) (fun _ _ _ _ _ h => h) rfl (by kernel_rfl) trivial rfl rfl (Y.moveS rfl rfl) (#[true, true, true, true, true, true, true, true, true, true, true, false, false, false, false, false, false, false]) (by kernel_rfl) ?_
                    refine GA.pure (i := 11) (fun _ _ _ _ _ h => h) rfl (by kernel_rfl) trivial rfl rfl (Y.moveI rfl rfl) (#[true, true, true, true, true, true, true, true, true, true, true, true, false, false, false, false, false, false]) (by kernel_rfl) ?_
                    refine GA.pure (i := 12) (fun _ _ _ _ _ h => h) rfl (by kernel_rfl) trivial rfl rfl (Y.idxN rfl Try.underlying27 I2 rfl rfl (by omega)) (#[true, true, true, true, true, true, true, true, true, true, true, true, true, false, false, false, false, false]) (by kernel_rfl) ?_
                    refine GA.read (i := 13) (fun _ _ _ _ _ h => h) rfl (by kernel_rfl) (by kernel_rfl) trivial rfl rfl (Y.ldI (by first | exact ha.again _ | exact .next (ha.again _) | exact .next (.next (ha.again _))) rfl Try.underlying2 rfl rfl (by omega)) (#[true, true, true, true, true, true, true, true, true, true, true, true, true, true, false, false, false, false]) (by kernel_rfl) ?_
                    refine GA.pure (i := 14) (fun _ _ _ _ _ h => h) rfl (by kernel_rfl) trivial rfl rfl (Y.idxN rfl Try.underlying27 I2 rfl rfl (by omega)) (#[true, true, true, true, true, true, true, true, true, true, true, true, true, true, true, false, false, false]) (by kernel_rfl) ?_
                    refine GA.one (i := 15) rfl (by kernel_rfl) (#[true, true, true, true, true, true, true, true, true, true, true, true, true, true, true, true, false, false]) (by kernel_rfl) ?_
                    refine G.stI (by first | exact ha.again _ | exact .next (ha.again _) | exact .next (.next (ha.again _))) rfl trivial rfl I2 rfl rfl (by first | omega | (simp only [Array.size_setIfInBounds]; omega)) ?_
                    refine G.nil ?_
                    refine ⟨fun _ h => absurd h (by simp [hit]), ?_⟩
                    refine GA.pure (i := 16) (fun _ _ _ _ _ h => h) rfl (by kernel_rfl) trivial rfl rfl (Y.idxN rfl Try.underlying27 I2 rfl rfl (by omega)) (#[true, true, true, true, true, true, true, true, true, true, true, true, true, true, true, true, true, false]) (by kernel_rfl) ?_
                    refine GA.one (i := 17) rfl (by kernel_rfl) (#[true, true, true, true, true, true, true, true, true, true, true, true, true, true, true, true, true, true]) (by kernel_rfl) ?_
                    refine G.stI (by first | exact ha.again _ | exact .next (ha.again _) | exact .next (.next (ha.again _))) rfl trivial rfl I2 rfl rfl (by first | omega | (simp only [Array.size_setIfInBounds]; omega)) ?_
                    refine G.nil ?_
                    refine ⟨fun _ h => absurd h (by simp [hit]), ?_⟩
                    refine GA.done (by kernel_rfl) ?_
                    refine C.region ?_
                    refine G.moveI rfl trivial rfl rfl rfl ?_
                    refine G.addN (j := 1) rfl trivial rfl rfl rfl rfl (by omega) ?_
                    refine G.assignI rfl trivial rfl rfl rfl ?_
                    refine G.nil ?_
                    exact ⟨b - (j + 1) + 0, by omega, j + 1, swp e2 j (j - 1), rfl, by omega, by omega, by rw [swp_size]; exact he2, by rw [← hsu]; exact (shiftUp_go (by omega) (Classical.not_not.1 hc9)).symm, rfl, rfl, rfl, rfl, rfl, rfl, rfl, rfl⟩
                · intro hc8
                  refine C.exit ?_
                  exact ⟨e2, he2, by unfold fixUp; rw [if_pos (by omega), ← hsu]; exact shiftUp_end (fun hle => by first | exact absurd hle (by omega) | exact hc9), rfl, rfl, rfl, rfl, rfl, rfl, rfl⟩
              ·
                rintro F D' L' ⟨e2, he2, hfu, h0, h1, h2, h7, h8, rfl, rfl⟩
                refine C.fix (d := 0) h0 ?_
                refine C.fix (d := 1) h1 ?_
                refine C.fix (d := 2) h2 ?_
                refine C.fix (d := 7) h7 ?_
                refine C.fix (d := 8) h8 ?_
                refine C.region ?_
                refine G.moveI rfl trivial rfl rfl rfl ?_
                refine G.addN (j := 1) rfl trivial rfl rfl rfl rfl (by omega) ?_
                refine G.assignI rfl trivial rfl rfl rfl ?_
                refine G.nil ?_
                exact ⟨5 - (s + 1) + 0, by omega, s + 1, i, e2, rfl, by omega, by omega, by omega, he2, by rw [hps, hfd, hfu], rfl, rfl, rfl, rfl, rfl, rfl, rfl⟩
            · intro hc7
              obtain ⟨e2, hfu⟩ : ∃ e2, fixUp ltInt b i e1 = e2 := ⟨_, rfl⟩
              have hq2 : fixUp ltInt b i e1 = e1 := by unfold fixUp; rw [if_neg (by omega)]
              have he2 : e2.size = n := by rw [← hfu, hq2]; exact he1
              refine C.less (L' := u bk (.row (ic e2 rest) te kk)) (fun _ h => by rw [← hfu, hq2]; exact h) ?_
              refine C.skip ?_
              refine C.region ?_
              refine G.moveI rfl trivial rfl rfl rfl ?_
              refine G.addN (j := 1) rfl trivial rfl rfl rfl rfl (by omega) ?_
              refine G.assignI rfl trivial rfl rfl rfl ?_
              refine G.nil ?_
              exact ⟨5 - (s + 1) + 0, by omega, s + 1, i, e2, rfl, by omega, by omega, by omega, he2, by rw [hps, hfd, hfu], rfl, rfl, rfl, rfl, rfl, rfl, rfl⟩
  · intro hc0
    refine C.exit ?_
    refine C.seq ?_
    refine C.region ?_
    refine G.assignB rfl trivial rfl rfl rfl ?_
    refine G.nil ?_
    refine C.ret ?_
    -- end c0F
    obtain rfl : s = 5 := by omega
    replace hpi : (e, false) = partialInsertionSort ltInt d a b := hpi
    exact ⟨rfl, _, Res.of (rs := [.tmp 6]) rfl rfl, by rw [← hpi], by rw [← hpi]; rfl⟩
end sort
end Go.Proofs.Ytomiidlbfcfpiaa
