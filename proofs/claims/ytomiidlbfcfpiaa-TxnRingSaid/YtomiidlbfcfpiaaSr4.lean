/-
  The library's sort: the partitions, walked.
-/
import Derived.Test.YtomiidlbfcfpiaaSr3
namespace Go.Proofs.Ytomiidlbfcfpiaa
open Go Go.SL Go.RowKit Go.Sort

theorem scanUp_go {p : Int → Bool} {d : Array Int} {j i : Nat} (h : i ≤ j) (hp : p d[i]! = true) : scanUp p d j i = scanUp p d j (i + 1) := by
  conv => lhs; unfold scanUp
  rw [if_pos (by simp only [Bool.and_eq_true, decide_eq_true_eq]; exact ⟨h, hp⟩)]
theorem scanUp_end {p : Int → Bool} {d : Array Int} {j i : Nat} (h : i ≤ j → p d[i]! = false) : scanUp p d j i = i := by
  unfold scanUp
  rw [if_neg]
  simp only [Bool.and_eq_true, decide_eq_true_eq]
  rintro ⟨h1, h2⟩
  rw [h h1] at h2
  cases h2
theorem scanDown_go {p : Int → Bool} {d : Array Int} {j i : Nat} (h : i ≤ j) (h1 : 1 ≤ j) (hp : p d[j]! = true) : scanDown p d i j = scanDown p d i (j - 1) := by
  obtain ⟨k, rfl⟩ : ∃ k, j = k + 1 := ⟨j - 1, by omega⟩
  conv => lhs; unfold scanDown
  rw [if_pos (by simp only [Bool.and_eq_true, decide_eq_true_eq]; exact ⟨h, hp⟩), Nat.add_sub_cancel]
theorem scanDown_end {p : Int → Bool} {d : Array Int} {j i : Nat} (h : i ≤ j → p d[j]! = false) : scanDown p d i j = j := by
  cases j with
  | zero => rfl
  | succ k =>
    unfold scanDown
    rw [if_neg]
    simp only [Bool.and_eq_true, decide_eq_true_eq]
    rintro ⟨h1, h2⟩
    rw [h h1] at h2
    cases h2
theorem part_done {d : Array Int} {a b p i j : Nat} (hi : scanUp (fun x => ltInt x (swp d a p)[a]!) (swp d a p) (b - 1) (a + 1) = i) (hj : scanDown (fun x => !ltInt x (swp d a p)[a]!) (swp d a p) i (b - 1) = j) (h : i > j) :
    Go.Sort.partition ltInt d a b p = (j, true, swp (swp d a p) j a) := by
  unfold Go.Sort.partition
  simp only [hi, hj, if_pos h]
theorem part_more {d : Array Int} {a b p i j : Nat} (hi : scanUp (fun x => ltInt x (swp d a p)[a]!) (swp d a p) (b - 1) (a + 1) = i) (hj : scanDown (fun x => !ltInt x (swp d a p)[a]!) (swp d a p) i (b - 1) = j) (h : ¬ i > j) :
    Go.Sort.partition ltInt d a b p = ((partLoop ltInt a (i + 1) (j - 1) (swp (swp d a p) i j)).1, false, swp (partLoop ltInt a (i + 1) (j - 1) (swp (swp d a p) i j)).2 (partLoop ltInt a (i + 1) (j - 1) (swp (swp d a p) i j)).1 a) := by
  unfold Go.Sort.partition
  simp only [hi, hj, if_neg h]
section sort
variable (W0 : World) {bk : Nat} {o0 : SObj} {L0 : List Seg} {u : Nat → SObj → List Seg} (ha : At L0 bk o0 u) (te : TypeId) (kk n cap : Nat) (rest : List Value) (hn : n ≤ 2305843009213693952)
include ha hn
theorem partition_spec (d : Array Int) (hd : d.size = n) (a b p : Nat) (hap : a ≤ p) (hpb : p < b) (hb : b ≤ n) :
    FnS Try.prog W0 62 #[.slice (some ⟨bk, 0, none⟩) n cap, .int .i64 a, .int .i64 b, .int .i64 p] (u bk (.row (ic d rest) te kk))
      (fun e L' => L' = u bk (.row (ic (Go.Sort.partition ltInt d a b p).2.2 rest) te kk) ∧ e = .returned (.tuple #[.int .i64 ((Go.Sort.partition ltInt d a b p).1 : Int), .bool (Go.Sort.partition ltInt d a b p).2.1])) := by
  refine FnS.of (args := [.slice (some ⟨bk, 0, none⟩) n cap, .int .i64 (a : Int), .int .i64 (b : Int), .int .i64 (p : Int)]) Try.func62 rfl rfl ?_
  refine C.seq ?_
  refine C.region ?_
  refine G.assignI rfl trivial rfl rfl rfl ?_
  refine G.assignB rfl trivial rfl rfl rfl ?_
  refine G.nil ?_
  refine C.seq ?_
  refine C.drawn mixed (_) [13, 15] (fun _ h => h) ?_
  refine GA.pure (i := 0) (fun _ _ _ _ _ h => h) rfl (by kernel_rfl) trivial rfl rfl (Y.moveS rfl rfl) (#[true, false, false, false, false, false, false, false, false, false, false, false, false, false, false, false]) (by kernel_rfl) ?_
  refine GA.pure (i := 1) (fun _ _ _ _ _ h => h) rfl (by kernel_rfl) trivial rfl rfl (Y.moveI rfl rfl) (#[true, true, false, false, false, false, false, false, false, false, false, false, false, false, false, false]) (by kernel_rfl) ?_
  refine GA.pure (i := 2) (fun _ _ _ _ _ h => h) rfl (by kernel_rfl) trivial rfl rfl (Y.moveS rfl rfl) (#[true, true, true, false, false, false, false, false, false, false, false, false, false, false, false, false]) (by kernel_rfl) ?_
  refine GA.pure (i := 3) (fun _ _ _ _ _ h => h) rfl (by kernel_rfl) trivial rfl rfl (Y.moveI rfl rfl) (#[true, true, true, true, false, false, false, false, false, false, false, false, false, false, false, false]) (by kernel_rfl) ?_
  refine GA.pure (i := 4) (fun _ _ _ _ _ h => h) rfl (by kernel_rfl) trivial rfl rfl (Y.moveS rfl rfl) (#[true, true, true, true, true, false, false, false, false, false, false, false, false, false, false, false]) (by kernel_rfl) ?_
  refine GA.pure (i := 5) (fun _ _ _ _ _ h => h) rfl (by kernel_rfl) trivial rfl rfl (Y.moveI rfl rfl) (#[true, true, true, true, true, true, false, false, false, false, false, false, false, false, false, false]) (by kernel_rfl) ?_
  refine GA.pure (i := 6) (fun _ _ _ _ _ h => h) rfl (by kernel_rfl) trivial rfl rfl (Y.idxN rfl Try.underlying27 I2 rfl rfl (by omega)) (#[true, true, true, true, true, true, true, false, false, false, false, false, false, false, false, false]) (by kernel_rfl) ?_
  refine GA.read (i := 7) (fun _ _ _ _ _ h => h) rfl (by kernel_rfl) (by kernel_rfl) trivial rfl rfl (Y.ldI (by first | exact ha.again _ | exact .next (ha.again _) | exact .next (.next (ha.again _))) rfl Try.underlying2 rfl rfl (by omega)) (#[true, true, true, true, true, true, true, true, false, false, false, false, false, false, false, false]) (by kernel_rfl) ?_
  refine GA.pure (i := 8) (fun _ _ _ _ _ h => h) rfl (by kernel_rfl) trivial rfl rfl (Y.moveS rfl rfl) (#[true, true, true, true, true, true, true, true, true, false, false, false, false, false, false, false]) (by kernel_rfl) ?_
  refine GA.pure (i := 9) (fun _ _ _ _ _ h => h) rfl (by kernel_rfl) trivial rfl rfl (Y.moveI rfl rfl) (#[true, true, true, true, true, true, true, true, true, true, false, false, false, false, false, false]) (by kernel_rfl) ?_
  refine GA.pure (i := 10) (fun _ _ _ _ _ h => h) rfl (by kernel_rfl) trivial rfl rfl (Y.idxN rfl Try.underlying27 I2 rfl rfl (by omega)) (#[true, true, true, true, true, true, true, true, true, true, true, false, false, false, false, false]) (by kernel_rfl) ?_
  refine GA.read (i := 11) (fun _ _ _ _ _ h => h) rfl (by kernel_rfl) (by kernel_rfl) trivial rfl rfl (Y.ldI (by first | exact ha.again _ | exact .next (ha.again _) | exact .next (.next (ha.again _))) rfl Try.underlying2 rfl rfl (by omega)) (#[true, true, true, true, true, true, true, true, true, true, true, true, false, false, false, false]) (by kernel_rfl) ?_
  refine GA.pure (i := 12) (fun _ _ _ _ _ h => h) rfl (by kernel_rfl) trivial rfl rfl (Y.idxN rfl Try.underlying27 I2 rfl rfl (by omega)) (#[true, true, true, true, true, true, true, true, true, true, true, true, true, false, false, false]) (by kernel_rfl) ?_
  refine GA.one (i := 13) rfl (by kernel_rfl) (#[true, true, true, true, true, true, true, true, true, true, true, true, true, true, false, false]) (by kernel_rfl) ?_
  refine G.stI (by first | exact ha.again _ | exact .next (ha.again _) | exact .next (.next (ha.again _))) rfl trivial rfl I2 rfl rfl (by first | omega | (simp only [Array.size_setIfInBounds]; omega)) ?_
  refine G.nil ?_
  refine ⟨fun _ h => absurd h (by simp [hit]), ?_⟩
  refine GA.pure (i := 14) (fun _ _ _ _ _ h => h) rfl (by kernel_rfl) trivial rfl rfl (Y.idxN rfl Try.underlying27 I2 rfl rfl (by omega)) (#[true, true, true, true, true, true, true, true, true, true, true, true, true, true, true, false]) (by kernel_rfl) ?_
  refine GA.one (i := 15) rfl (by kernel_rfl) (#[true, true, true, true, true, true, true, true, true, true, true, true, true, true, true, true]) (by kernel_rfl) ?_
  refine G.stI (by first | exact ha.again _ | exact .next (ha.again _) | exact .next (.next (ha.again _))) rfl trivial rfl I2 rfl rfl (by first | omega | (simp only [Array.size_setIfInBounds]; omega)) ?_
  refine G.nil ?_
  refine ⟨fun _ h => absurd h (by simp [hit]), ?_⟩
  refine GA.done (by kernel_rfl) ?_
  refine C.seq ?_
  refine C.region ?_
  refine G.moveI rfl trivial rfl rfl rfl ?_
  refine G.addN (j := 1) rfl trivial rfl rfl rfl rfl (by omega) ?_
  refine G.moveI rfl trivial rfl rfl rfl ?_
  refine G.subN (j := 1) rfl trivial rfl rfl rfl rfl (by omega) ?_
  refine G.assignI rfl trivial rfl rfl rfl ?_
  refine G.assignI rfl trivial rfl rfl rfl ?_
  refine G.nil ?_
  refine C.cut (fun F D' L' => ∃ i : Nat, scanUp (fun x => ltInt x (swp d a p)[a]!) (swp d a p) (b - 1) (a + 1) = i ∧ a + 1 ≤ i ∧ i ≤ b ∧ F 0 = .slice (some ⟨bk, 0, none⟩) n cap ∧ F 1 = .int .i64 (a : Int) ∧ F 10 = .int .i64 (i : Int) ∧ F 11 = .int .i64 ((b - 1 : Nat) : Int) ∧ D' = [] ∧ u bk (.row (ic (swp d a p) rest) te kk) = L') ?_ ?_
  ·
    refine C.block ?_
    refine C.loop (fun m F D' L' => ∃ (i : Nat), m = b + 1 - i ∧ a + 1 ≤ i ∧ i ≤ b ∧ scanUp (fun x => ltInt x (swp d a p)[a]!) (swp d a p) (b - 1) i = scanUp (fun x => ltInt x (swp d a p)[a]!) (swp d a p) (b - 1) (a + 1) ∧ F 0 = .slice (some ⟨bk, 0, none⟩) n cap ∧ F 1 = .int .i64 (a : Int) ∧ F 10 = .int .i64 (i : Int) ∧ F 11 = .int .i64 ((b - 1 : Nat) : Int) ∧ D' = [] ∧ u bk (.row (ic (swp d a p) rest) te kk) = L') ⟨_, ⟨a + 1, rfl, by omega, by omega, rfl, rfl, rfl, rfl, rfl, rfl, rfl⟩⟩ ?_
    rintro m F D' L' ⟨i, rfl, hi1, hi2, hsc, h0, h1, h10, h11, rfl, rfl⟩
    refine C.fix (d := 0) h0 ?_
    refine C.fix (d := 1) h1 ?_
    refine C.fix (d := 10) h10 ?_
    refine C.fix (d := 11) h11 ?_
    have hsz : (swp d a p).size = n := by rw [swp_size]; exact hd
    refine C.seq ?_
    refine C.seq ?_
    refine C.drawn mixed (_) [] (fun _ h => h) ?_
    refine GA.pure (i := 0) (fun _ _ _ _ _ h => h) rfl (by kernel_rfl) trivial rfl rfl (Y.moveI rfl rfl) (#[true, false, false, false, false, false, false, false, false, false, false, false, false, false]) (by kernel_rfl) ?_
    refine GA.pure (i := 1) (fun _ _ _ _ _ h => h) rfl (by kernel_rfl) trivial rfl rfl (Y.moveI rfl rfl) (#[true, true, false, false, false, false, false, false, false, false, false, false, false, false]) (by kernel_rfl) ?_
    refine GA.pure (i := 2) (fun _ _ _ _ _ h => h) rfl (by kernel_rfl) trivial rfl rfl (Y.bin rfl rfl rfl rfl) (#[true, true, true, false, false, false, false, false, false, false, false, false, false, false]) (by kernel_rfl) ?_
    refine GA.pure (i := 3) (fun _ _ _ _ _ h => h) rfl (by kernel_rfl) trivial rfl rfl (Y.moveB rfl rfl) (#[true, true, true, true, false, false, false, false, false, false, false, false, false, false]) (by kernel_rfl) ?_
    refine GA.fork (t := 33) _ rfl ?_ ?_
    · intro hg33
      refine GA.pure (i := 4) (fun _ _ _ _ _ h => h) rfl (by kernel_rfl) ⟨_, rfl, rfl, rfl⟩ rfl rfl (Y.moveS rfl rfl) (#[true, true, true, true, true, false, false, false, false, false, false, false, false, false]) (by kernel_rfl) ?_
      refine GA.pure (i := 5) (fun _ _ _ _ _ h => h) rfl (by kernel_rfl) ⟨_, rfl, rfl, rfl⟩ rfl rfl (Y.moveI rfl rfl) (#[true, true, true, true, true, true, false, false, false, false, false, false, false, false]) (by kernel_rfl) ?_
      refine GA.pure (i := 6) (fun _ _ _ _ _ h => h) rfl (by kernel_rfl) ⟨_, rfl, rfl, rfl⟩ rfl rfl (Y.idxN rfl Try.underlying27 I2 rfl rfl (by omega)) (#[true, true, true, true, true, true, true, false, false, false, false, false, false, false]) (by kernel_rfl) ?_
      refine GA.read (i := 7) (fun _ _ _ _ _ h => h) rfl (by kernel_rfl) (by kernel_rfl) ⟨_, rfl, rfl, rfl⟩ rfl rfl (Y.ldI (by first | exact ha.again _ | exact .next (ha.again _) | exact .next (.next (ha.again _))) rfl Try.underlying2 rfl rfl (by omega)) (#[true, true, true, true, true, true, true, true, false, false, false, false, false, false]) (by kernel_rfl) ?_
      refine GA.pure (i := 8) (fun _ _ _ _ _ h => h) rfl (by kernel_rfl) ⟨_, rfl, rfl, rfl⟩ rfl rfl (Y.moveS rfl rfl) (#[true, true, true, true, true, true, true, true, true, false, false, false, false, false]) (by kernel_rfl) ?_
      refine GA.pure (i := 9) (fun _ _ _ _ _ h => h) rfl (by kernel_rfl) ⟨_, rfl, rfl, rfl⟩ rfl rfl (Y.moveI rfl rfl) (#[true, true, true, true, true, true, true, true, true, true, false, false, false, false]) (by kernel_rfl) ?_
      refine GA.pure (i := 10) (fun _ _ _ _ _ h => h) rfl (by kernel_rfl) ⟨_, rfl, rfl, rfl⟩ rfl rfl (Y.idxN rfl Try.underlying27 I2 rfl rfl (by omega)) (#[true, true, true, true, true, true, true, true, true, true, true, false, false, false]) (by kernel_rfl) ?_
      refine GA.read (i := 11) (fun _ _ _ _ _ h => h) rfl (by kernel_rfl) (by kernel_rfl) ⟨_, rfl, rfl, rfl⟩ rfl rfl (Y.ldI (by first | exact ha.again _ | exact .next (ha.again _) | exact .next (.next (ha.again _))) rfl Try.underlying2 rfl rfl (by omega)) (#[true, true, true, true, true, true, true, true, true, true, true, true, false, false]) (by kernel_rfl) ?_
      refine GA.one (i := 12) rfl (by kernel_rfl) (#[true, true, true, true, true, true, true, true, true, true, true, true, true, false]) (by kernel_rfl) ?_
      refine G.call E60 rfl rfl ⟨_, rfl, rfl, rfl⟩ rfl rfl (less_spec W0 _ _ _) rfl ?_
      rintro e L2 ⟨rfl, rfl⟩
      refine G.nil ?_
      refine ⟨fun _ _ h => h, ?_⟩
      first | refine GA.pure (i := 13) (fun _ _ _ _ _ h => h) rfl (by kernel_rfl) trivial rfl rfl (Y.pickT rfl rfl rfl) (#[true, true, true, true, true, true, true, true, true, true, true, true, true, true]) (by kernel_rfl) ?_ | refine GA.pure (i := 13) (fun _ _ _ _ _ h => h) rfl (by kernel_rfl) trivial rfl rfl (Y.pickF rfl rfl rfl) (#[true, true, true, true, true, true, true, true, true, true, true, true, true, true]) (by kernel_rfl) ?_
      refine GA.done (by kernel_rfl) ?_
      refine C.cond _ rfl ?_ ?_
      · intro hc0
        refine C.skip ?_
        refine C.block ?_
        refine C.region ?_
        refine G.moveI rfl trivial rfl rfl rfl ?_
        refine G.addN (j := 1) rfl trivial rfl rfl rfl rfl (by omega) ?_
        refine G.assignI rfl trivial rfl rfl rfl ?_
        refine G.nil ?_
        exact ⟨b + 1 - (i + 1), by omega, i + 1, rfl, by omega, by omega, by rw [← hsc]; exact (scanUp_go (by omega) (by simpa [ltInt] using hc0)).symm, rfl, rfl, rfl, rfl, rfl, rfl⟩
      · intro hc0
        refine C.exit ?_
        exact ⟨i, by rw [← hsc]; exact scanUp_end (fun hle => by first | exact absurd hle (by omega) | simpa [ltInt] using hc0), by omega, by omega, rfl, rfl, rfl, rfl, rfl, rfl⟩
    · intro hg33
      refine GA.skip (i := 4) (fun _ _ _ _ _ h => h) rfl (by kernel_rfl) rfl rfl rfl rfl rfl rfl (#[true, true, true, true, true, false, false, false, false, false, false, false, false, false]) (by kernel_rfl) ?_
      refine GA.skip (i := 5) (fun _ _ _ _ _ h => h) rfl (by kernel_rfl) rfl rfl rfl rfl rfl rfl (#[true, true, true, true, true, true, false, false, false, false, false, false, false, false]) (by kernel_rfl) ?_
      refine GA.skip (i := 6) (fun _ _ _ _ _ h => h) rfl (by kernel_rfl) rfl rfl rfl rfl rfl rfl (#[true, true, true, true, true, true, true, false, false, false, false, false, false, false]) (by kernel_rfl) ?_
      refine GA.skip (i := 7) (fun _ _ _ _ _ h => h) rfl (by kernel_rfl) rfl rfl rfl rfl rfl rfl (#[true, true, true, true, true, true, true, true, false, false, false, false, false, false]) (by kernel_rfl) ?_
      refine GA.skip (i := 8) (fun _ _ _ _ _ h => h) rfl (by kernel_rfl) rfl rfl rfl rfl rfl rfl (#[true, true, true, true, true, true, true, true, true, false, false, false, false, false]) (by kernel_rfl) ?_
      refine GA.skip (i := 9) (fun _ _ _ _ _ h => h) rfl (by kernel_rfl) rfl rfl rfl rfl rfl rfl (#[true, true, true, true, true, true, true, true, true, true, false, false, false, false]) (by kernel_rfl) ?_
      refine GA.skip (i := 10) (fun _ _ _ _ _ h => h) rfl (by kernel_rfl) rfl rfl rfl rfl rfl rfl (#[true, true, true, true, true, true, true, true, true, true, true, false, false, false]) (by kernel_rfl) ?_
      refine GA.skip (i := 11) (fun _ _ _ _ _ h => h) rfl (by kernel_rfl) rfl rfl rfl rfl rfl rfl (#[true, true, true, true, true, true, true, true, true, true, true, true, false, false]) (by kernel_rfl) ?_
      refine GA.skip (i := 12) (fun _ _ _ _ _ h => h) rfl (by kernel_rfl) rfl rfl rfl rfl rfl rfl (#[true, true, true, true, true, true, true, true, true, true, true, true, true, false]) (by kernel_rfl) ?_
      first | refine GA.pure (i := 13) (fun _ _ _ _ _ h => h) rfl (by kernel_rfl) trivial rfl rfl (Y.pickT rfl rfl rfl) (#[true, true, true, true, true, true, true, true, true, true, true, true, true, true]) (by kernel_rfl) ?_ | refine GA.pure (i := 13) (fun _ _ _ _ _ h => h) rfl (by kernel_rfl) trivial rfl rfl (Y.pickF rfl rfl rfl) (#[true, true, true, true, true, true, true, true, true, true, true, true, true, true]) (by kernel_rfl) ?_
      refine GA.done (by kernel_rfl) ?_
      refine C.condF rfl ?_
      refine C.exit ?_
      exact ⟨i, by rw [← hsc]; exact scanUp_end (fun hle => by first | exact absurd hle (by omega) | simpa [ltInt] using hc0), by omega, by omega, rfl, rfl, rfl, rfl, rfl, rfl⟩
  ·
    rintro F D' L' ⟨i, hiE, hi1, hi2, h0, h1, h10, h11, rfl, rfl⟩
    refine C.fix (d := 0) h0 ?_
    refine C.fix (d := 1) h1 ?_
    refine C.fix (d := 10) h10 ?_
    refine C.fix (d := 11) h11 ?_
    have hsz : (swp d a p).size = n := by rw [swp_size]; exact hd
    refine C.cut (fun F D' L' => ∃ j : Nat, scanDown (fun x => !ltInt x (swp d a p)[a]!) (swp d a p) i (b - 1) = j ∧ a ≤ j ∧ j ≤ b - 1 ∧ F 0 = .slice (some ⟨bk, 0, none⟩) n cap ∧ F 1 = .int .i64 (a : Int) ∧ F 10 = .int .i64 (i : Int) ∧ F 11 = .int .i64 (j : Int) ∧ D' = [] ∧ u bk (.row (ic (swp d a p) rest) te kk) = L') ?_ ?_
    ·
      refine C.block ?_
      refine C.loop (fun m F D' L' => ∃ (j : Nat), m = j + 1 ∧ a ≤ j ∧ j ≤ b - 1 ∧ scanDown (fun x => !ltInt x (swp d a p)[a]!) (swp d a p) i j = scanDown (fun x => !ltInt x (swp d a p)[a]!) (swp d a p) i (b - 1) ∧ F 0 = .slice (some ⟨bk, 0, none⟩) n cap ∧ F 1 = .int .i64 (a : Int) ∧ F 10 = .int .i64 (i : Int) ∧ F 11 = .int .i64 (j : Int) ∧ D' = [] ∧ u bk (.row (ic (swp d a p) rest) te kk) = L') ⟨_, ⟨b - 1, rfl, by omega, by omega, rfl, rfl, rfl, rfl, rfl, rfl, rfl⟩⟩ ?_
      rintro m F D' L' ⟨j, rfl, hj1, hj2, hsd, h0, h1, h10, h11, rfl, rfl⟩
      refine C.fix (d := 0) h0 ?_
      refine C.fix (d := 1) h1 ?_
      refine C.fix (d := 10) h10 ?_
      refine C.fix (d := 11) h11 ?_
      refine C.seq ?_
      refine C.seq ?_
      refine C.drawn mixed (_) [] (fun _ h => h) ?_
      refine GA.pure (i := 0) (fun _ _ _ _ _ h => h) rfl (by kernel_rfl) trivial rfl rfl (Y.moveI rfl rfl) (#[true, false, false, false, false, false, false, false, false, false, false, false, false, false, false]) (by kernel_rfl) ?_
      refine GA.pure (i := 1) (fun _ _ _ _ _ h => h) rfl (by kernel_rfl) trivial rfl rfl (Y.moveI rfl rfl) (#[true, true, false, false, false, false, false, false, false, false, false, false, false, false, false]) (by kernel_rfl) ?_
      refine GA.pure (i := 2) (fun _ _ _ _ _ h => h) rfl (by kernel_rfl) trivial rfl rfl (Y.bin rfl rfl rfl rfl) (#[true, true, true, false, false, false, false, false, false, false, false, false, false, false, false]) (by kernel_rfl) ?_
      refine GA.pure (i := 3) (fun _ _ _ _ _ h => h) rfl (by kernel_rfl) trivial rfl rfl (Y.moveB rfl rfl) (#[true, true, true, true, false, false, false, false, false, false, false, false, false, false, false]) (by kernel_rfl) ?_
      refine GA.fork (t := 49) _ rfl ?_ ?_
      · intro hg49
        refine GA.pure (i := 4) (fun _ _ _ _ _ h => h) rfl (by kernel_rfl) ⟨_, rfl, rfl, rfl⟩ rfl rfl (Y.moveS rfl rfl) (#[true, true, true, true, true, false, false, false, false, false, false, false, false, false, false]) (by kernel_rfl) ?_
        refine GA.pure (i := 5) (fun _ _ _ _ _ h => h) rfl (by kernel_rfl) ⟨_, rfl, rfl, rfl⟩ rfl rfl (Y.moveI rfl rfl) (#[true, true, true, true, true, true, false, false, false, false, false, false, false, false, false]) (by kernel_rfl) ?_
        refine GA.pure (i := 6) (fun _ _ _ _ _ h => h) rfl (by kernel_rfl) ⟨_, rfl, rfl, rfl⟩ rfl rfl (Y.idxN rfl Try.underlying27 I2 rfl rfl (by omega)) (#[true, true, true, true, true, true, true, false, false, false, false, false, false, false, false]) (by kernel_rfl) ?_
        refine GA.read (i := 7) (fun _ _ _ _ _ h => h) rfl (by kernel_rfl) (by kernel_rfl) ⟨_, rfl, rfl, rfl⟩ rfl rfl (Y.ldI (by first | exact ha.again _ | exact .next (ha.again _) | exact .next (.next (ha.again _))) rfl Try.underlying2 rfl rfl (by omega)) (#[true, true, true, true, true, true, true, true, false, false, false, false, false, false, false]) (by kernel_rfl) ?_
        refine GA.pure (i := 8) (fun _ _ _ _ _ h => h) rfl (by kernel_rfl) ⟨_, rfl, rfl, rfl⟩ rfl rfl (Y.moveS rfl rfl) (#[true, true, true, true, true, true, true, true, true, false, false, false, false, false, false]) (by kernel_rfl) ?_
        refine GA.pure (i := 9) (fun _ _ _ _ _ h => h) rfl (by kernel_rfl) ⟨_, rfl, rfl, rfl⟩ rfl rfl (Y.moveI rfl rfl) (#[true, true, true, true, true, true, true, true, true, true, false, false, false, false, false]) (by kernel_rfl) ?_
        refine GA.pure (i := 10) (fun _ _ _ _ _ h => h) rfl (by kernel_rfl) ⟨_, rfl, rfl, rfl⟩ rfl rfl (Y.idxN rfl Try.underlying27 I2 rfl rfl (by omega)) (#[true, true, true, true, true, true, true, true, true, true, true, false, false, false, false]) (by kernel_rfl) ?_
        refine GA.read (i := 11) (fun _ _ _ _ _ h => h) rfl (by kernel_rfl) (by kernel_rfl) ⟨_, rfl, rfl, rfl⟩ rfl rfl (Y.ldI (by first | exact ha.again _ | exact .next (ha.again _) | exact .next (.next (ha.again _))) rfl Try.underlying2 rfl rfl (by omega)) (#[true, true, true, true, true, true, true, true, true, true, true, true, false, false, false]) (by kernel_rfl) ?_
        refine GA.one (i := 12) rfl (by kernel_rfl) (#[true, true, true, true, true, true, true, true, true, true, true, true, true, false, false]) (by kernel_rfl) ?_
        refine G.call E60 rfl rfl ⟨_, rfl, rfl, rfl⟩ rfl rfl (less_spec W0 _ _ _) rfl ?_
        rintro e L2 ⟨rfl, rfl⟩
        refine G.nil ?_
        refine ⟨fun _ _ h => h, ?_⟩
        first | refine GA.pure (i := 13) (fun _ _ _ _ _ h => h) rfl (by kernel_rfl) ⟨_, rfl, rfl, rfl⟩ rfl rfl (Y.notD rfl rfl) (#[true, true, true, true, true, true, true, true, true, true, true, true, true, true, false]) (by kernel_rfl) ?_ | refine GA.pure (i := 13) (fun _ _ _ _ _ h => h) rfl (by kernel_rfl) ⟨_, rfl, rfl, rfl⟩ rfl rfl (Y.not rfl rfl) (#[true, true, true, true, true, true, true, true, true, true, true, true, true, true, false]) (by kernel_rfl) ?_
        first | refine GA.pure (i := 14) (fun _ _ _ _ _ h => h) rfl (by kernel_rfl) trivial rfl rfl (Y.pickT rfl rfl rfl) (#[true, true, true, true, true, true, true, true, true, true, true, true, true, true, true]) (by kernel_rfl) ?_ | refine GA.pure (i := 14) (fun _ _ _ _ _ h => h) rfl (by kernel_rfl) trivial rfl rfl (Y.pickF rfl rfl rfl) (#[true, true, true, true, true, true, true, true, true, true, true, true, true, true, true]) (by kernel_rfl) ?_
        refine GA.done (by kernel_rfl) ?_
        refine C.cond _ rfl ?_ ?_
        · intro hc1
          refine C.skip ?_
          refine C.block ?_
          refine C.region ?_
          refine G.moveI rfl trivial rfl rfl rfl ?_
          refine G.subN (j := 1) rfl trivial rfl rfl rfl rfl (by omega) ?_
          refine G.assignI rfl trivial rfl rfl rfl ?_
          refine G.nil ?_
          exact ⟨j - 1 + 1, by omega, j - 1, rfl, by omega, by omega, by rw [← hsd]; exact (scanDown_go (by omega) (by omega) (by simpa [ltInt] using hc1)).symm, rfl, rfl, rfl, rfl, rfl, rfl⟩
        · intro hc1
          refine C.exit ?_
          exact ⟨j, by rw [← hsd]; exact scanDown_end (fun hle => by first | exact absurd hle (by omega) | simpa [ltInt] using hc1), by omega, by omega, rfl, rfl, rfl, rfl, rfl, rfl⟩
      · intro hg49
        refine GA.skip (i := 4) (fun _ _ _ _ _ h => h) rfl (by kernel_rfl) rfl rfl rfl rfl rfl rfl (#[true, true, true, true, true, false, false, false, false, false, false, false, false, false, false]) (by kernel_rfl) ?_
        refine GA.skip (i := 5) (fun _ _ _ _ _ h => h) rfl (by kernel_rfl) rfl rfl rfl rfl rfl rfl (#[true, true, true, true, true, true, false, false, false, false, false, false, false, false, false]) (by kernel_rfl) ?_
        refine GA.skip (i := 6) (fun _ _ _ _ _ h => h) rfl (by kernel_rfl) rfl rfl rfl rfl rfl rfl (#[true, true, true, true, true, true, true, false, false, false, false, false, false, false, false]) (by kernel_rfl) ?_
        refine GA.skip (i := 7) (fun _ _ _ _ _ h => h) rfl (by kernel_rfl) rfl rfl rfl rfl rfl rfl (#[true, true, true, true, true, true, true, true, false, false, false, false, false, false, false]) (by kernel_rfl) ?_
        refine GA.skip (i := 8) (fun _ _ _ _ _ h => h) rfl (by kernel_rfl) rfl rfl rfl rfl rfl rfl (#[true, true, true, true, true, true, true, true, true, false, false, false, false, false, false]) (by kernel_rfl) ?_
        refine GA.skip (i := 9) (fun _ _ _ _ _ h => h) rfl (by kernel_rfl) rfl rfl rfl rfl rfl rfl (#[true, true, true, true, true, true, true, true, true, true, false, false, false, false, false]) (by kernel_rfl) ?_
        refine GA.skip (i := 10) (fun _ _ _ _ _ h => h) rfl (by kernel_rfl) rfl rfl rfl rfl rfl rfl (#[true, true, true, true, true, true, true, true, true, true, true, false, false, false, false]) (by kernel_rfl) ?_
        refine GA.skip (i := 11) (fun _ _ _ _ _ h => h) rfl (by kernel_rfl) rfl rfl rfl rfl rfl rfl (#[true, true, true, true, true, true, true, true, true, true, true, true, false, false, false]) (by kernel_rfl) ?_
        refine GA.skip (i := 12) (fun _ _ _ _ _ h => h) rfl (by kernel_rfl) rfl rfl rfl rfl rfl rfl (#[true, true, true, true, true, true, true, true, true, true, true, true, true, false, false]) (by kernel_rfl) ?_
        refine GA.skip (i := 13) (fun _ _ _ _ _ h => h) rfl (by kernel_rfl) rfl rfl rfl rfl rfl rfl (#[true, true, true, true, true, true, true, true, true, true, true, true, true, true, false]) (by kernel_rfl) ?_
        first | refine GA.pure (i := 14) (fun _ _ _ _ _ h => h) rfl (by kernel_rfl) trivial rfl rfl (Y.pickT rfl rfl rfl) (#[true, true, true, true, true, true, true, true, true, true, true, true, true, true, true]) (by kernel_rfl) ?_ | refine GA.pure (i := 14) (fun _ _ _ _ _ h => h) rfl (by kernel_rfl) trivial rfl rfl (Y.pickF rfl rfl rfl) (#[true, true, true, true, true, true, true, true, true, true, true, true, true, true, true]) (by kernel_rfl) ?_
        refine GA.done (by kernel_rfl) ?_
        refine C.condF rfl ?_
        refine C.exit ?_
        exact ⟨j, by rw [← hsd]; exact scanDown_end (fun hle => by first | exact absurd hle (by omega) | simpa [ltInt] using hc1), by omega, by omega, rfl, rfl, rfl, rfl, rfl, rfl⟩
    ·
      rintro F D' L' ⟨j, hjE, hj1, hj2, h0, h1, h10, h11, rfl, rfl⟩
      refine C.fix (d := 0) h0 ?_
      refine C.fix (d := 1) h1 ?_
      refine C.fix (d := 10) h10 ?_
      refine C.fix (d := 11) h11 ?_
      refine C.seq ?_
      refine C.seq ?_
      refine C.region ?_
      refine G.moveI rfl trivial rfl rfl rfl ?_
      refine G.moveI rfl trivial rfl rfl rfl ?_
      refine G.bin rfl trivial rfl rfl rfl rfl rfl ?_
      refine G.nil ?_
      refine C.cond _ rfl ?_ ?_
      · intro hc2
        refine C.seq ?_
        refine C.drawn mixed (_) [13, 15] (fun _ h => h) ?_
        refine GA.pure (i := 0) (fun _ _ _ _ _ h => h) rfl (by kernel_rfl) trivial rfl rfl (Y.moveS rfl rfl) (#[true, false, false, false, false, false, false, false, false, false, false, false, false, false, false, false]) (by kernel_rfl) ?_
        refine GA.pure (i := 1) (fun _ _ _ _ _ h => h) rfl (by kernel_rfl) trivial rfl rfl (Y.moveI rfl rfl) (#[true, true, false, false, false, false, false, false, false, false, false, false, false, false, false, false]) (by kernel_rfl) ?_
        refine GA.pure (i := 2) (fun _ _ _ _ _ h => h) rfl (by kernel_rfl) trivial rfl rfl (Y.moveS rfl rfl) (#[true, true, true, false, false, false, false, false, false, false, false, false, false, false, false, false]) (by kernel_rfl) ?_
        refine GA.pure (i := 3) (fun _ _ _ _ _ h => h) rfl (by kernel_rfl) trivial rfl rfl (Y.moveI rfl rfl) (#[true, true, true, true, false, false, false, false, false, false, false, false, false, false, false, false]) (by kernel_rfl) ?_
        refine GA.pure (i := 4) (fun _ _ _ _ _ h => h) rfl (by kernel_rfl) trivial rfl rfl (Y.moveS rfl rfl) (#[true, true, true, true, true, false, false, false, false, false, false, false, false, false, false, false]) (by kernel_rfl) ?_
        refine GA.pure (i := 5) (fun _ _ _ _ _ h => h) rfl (by kernel_rfl) trivial rfl rfl (Y.moveI rfl rfl) (#[true, true, true, true, true, true, false, false, false, false, false, false, false, false, false, false]) (by kernel_rfl) ?_
        refine GA.pure (i := 6) (fun _ _ _ _ _ h => h) rfl (by kernel_rfl) trivial rfl rfl (Y.idxN rfl Try.underlying27 I2 rfl rfl (by omega)) (#[true, true, true, true, true, true, true, false, false, false, false, false, false, false, false, false]) (by kernel_rfl) ?_
        refine GA.read (i := 7) (fun _ _ _ _ _ h => h) rfl (by kernel_rfl) (by kernel_rfl) trivial rfl rfl (Y.ldI (by first | exact ha.again _ | exact .next (ha.again _) | exact .next (.next (ha.again _))) rfl Try.underlying2 rfl rfl (by omega)) (#[true, true, true, true, true, true, true, true, false, false, false, false, false, false, false, false]) (by kernel_rfl) ?_
        refine GA.pure (i := 8) (fun _ _ _ _ _ h => h) rfl (by kernel_rfl) trivial rfl rfl (Y.moveS rfl rfl) (#[true, true, true, true, true, true, true, true, true, false, false, false, false, false, false, false]) (by kernel_rfl) ?_
        refine GA.pure (i := 9) (fun _ _ _ _ _ h => h) rfl (by kernel_rfl) trivial rfl rfl (Y.moveI rfl rfl) (#[true, true, true, true, true, true, true, true, true, true, false, false, false, false, false, false]) (by kernel_rfl) ?_
        refine GA.pure (i := 10) (fun _ _ _ _ _ h => h) rfl (by kernel_rfl) trivial rfl rfl (Y.idxN rfl Try.underlying27 I2 rfl rfl (by omega)) (#[true, true, true, true, true, true, true, true, true, true, true, false, false, false, false, false]) (by kernel_rfl) ?_
        refine GA.read (i := 11) (fun _ _ _ _ _ h => h) rfl (by kernel_rfl) (by kernel_rfl) trivial rfl rfl (Y.ldI (by first | exact ha.again _ | exact .next (ha.again _) | exact .next (.next (ha.again _))) rfl Try.underlying2 rfl rfl (by omega)) (#[true, true, true, true, true, true, true, true, true, true, true, true, false, false, false, false]) (by kernel_rfl) ?_
        refine GA.pure (i := 12) (fun _ _ _ _ _ h => h) rfl (by kernel_rfl) trivial rfl rfl (Y.idxN rfl Try.underlying27 I2 rfl rfl (by omega)) (#[true, true, true, true, true, true, true, true, true, true, true, true, true, false, false, false]) (by kernel_rfl) ?_
        refine GA.one (i := 13) rfl (by kernel_rfl) (#[true, true, true, true, true, true, true, true, true, true, true, true, true, true, false, false]) (by kernel_rfl) ?_
        refine G.stI (by first | exact ha.again _ | exact .next (ha.again _) | exact .next (.next (ha.again _))) rfl trivial rfl I2 rfl rfl (by first | omega | (simp only [Array.size_setIfInBounds]; omega)) ?_
        refine G.nil ?_
        refine ⟨fun _ h => absurd h (by simp [hit]), ?_⟩
        refine GA.pure (i := 14) (fun _ _ _ _ _ h => h) rfl (by kernel_rfl) trivial rfl rfl (Y.idxN rfl Try.underlying27 I2 rfl rfl (by omega)) (#[true, true, true, true, true, true, true, true, true, true, true, true, true, true, true, false]) (by kernel_rfl) ?_
        refine GA.one (i := 15) rfl (by kernel_rfl) (#[true, true, true, true, true, true, true, true, true, true, true, true, true, true, true, true]) (by kernel_rfl) ?_
        refine G.stI (by first | exact ha.again _ | exact .next (ha.again _) | exact .next (.next (ha.again _))) rfl trivial rfl I2 rfl rfl (by first | omega | (simp only [Array.size_setIfInBounds]; omega)) ?_
        refine G.nil ?_
        refine ⟨fun _ h => absurd h (by simp [hit]), ?_⟩
        refine GA.done (by kernel_rfl) ?_
        refine C.seq ?_
        refine C.region ?_
        refine G.moveI rfl trivial rfl rfl rfl ?_
        refine G.assignI rfl trivial rfl rfl rfl ?_
        refine G.assignB rfl trivial rfl rfl rfl ?_
        refine G.nil ?_
        refine C.ret ?_
        -- end c2T
        have hP := part_done hiE hjE (by omega)
        exact ⟨rfl, _, Res.of (rs := [.tmp 8, .tmp 9]) rfl rfl, by rw [hP]; rfl, by rw [hP]; rfl⟩
      · intro hc2
        refine C.skip ?_
        refine C.seq ?_
        refine C.drawn mixed (_) [13, 15] (fun _ h => h) ?_
        refine GA.pure (i := 0) (fun _ _ _ _ _ h => h) rfl (by kernel_rfl) trivial rfl rfl (Y.moveS rfl rfl) (#[true, false, false, false, false, false, false, false, false, false, false, false, false, false, false, false]) (by kernel_rfl) ?_
        refine GA.pure (i := 1) (fun _ _ _ _ _ h => h) rfl (by kernel_rfl) trivial rfl rfl (Y.moveI rfl rfl) (#[true, true, false, false, false, false, false, false, false, false, false, false, false, false, false, false]) (by kernel_rfl) ?_
        refine GA.pure (i := 2) (fun _ _ _ _ _ h => h) rfl (by kernel_rfl) trivial rfl rfl (Y.moveS rfl rfl) (#[true, true, true, false, false, false, false, false, false, false, false, false, false, false, false, false]) (by kernel_rfl) ?_
        refine GA.pure (i := 3) (fun _ _ _ _ _ h => h) rfl (by kernel_rfl) trivial rfl rfl (Y.moveI rfl rfl) (#[true, true, true, true, false, false, false, false, false, false, false, false, false, false, false, false]) (by kernel_rfl) ?_
        refine GA.pure (i := 4) (fun _ _ _ _ _ h => h) rfl (by kernel_rfl) trivial rfl rfl (Y.moveS rfl rfl) (#[true, true, true, true, true, false, false, false, false, false, false, false, false, false, false, false]) (by kernel_rfl) ?_
        refine GA.pure (i := 5) (fun _ _ _ _ _ h => h) rfl (by kernel_rfl) trivial rfl rfl (Y.moveI rfl rfl) (#[true, true, true, true, true, true, false, false, false, false, false, false, false, false, false, false]) (by kernel_rfl) ?_
        refine GA.pure (i := 6) (fun _ _ _ _ _ h => h) rfl (by kernel_rfl) trivial rfl rfl (Y.idxN rfl Try.underlying27 I2 rfl rfl (by omega)) (#[true, true, true, true, true, true, true, false, false, false, false, false, false, false, false, false]) (by kernel_rfl) ?_
        refine GA.read (i := 7) (fun _ _ _ _ _ h => h) rfl (by kernel_rfl) (by kernel_rfl) trivial rfl rfl (Y.ldI (by first | exact ha.again _ | exact .next (ha.again _) | exact .next (.next (ha.again _))) rfl Try.underlying2 rfl rfl (by omega)) (#[true, true, true, true, true, true, true, true, false, false, false, false, false, false, false, false]) (by kernel_rfl) ?_
        refine GA.pure (i := 8) (fun _ _ _ _ _ h => h) rfl (by kernel_rfl) trivial rfl rfl (Y.moveS rfl rfl) (#[true, true, true, true, true, true, true, true, true, false, false, false, false, false, false, false]) (by kernel_rfl) ?_
        refine GA.pure (i := 9) (fun _ _ _ _ _ h => h) rfl (by kernel_rfl) trivial rfl rfl (Y.moveI rfl rfl) (#[true, true, true, true, true, true, true, true, true, true, false, false, false, false, false, false]) (by kernel_rfl) ?_
        refine GA.pure (i := 10) (fun _ _ _ _ _ h => h) rfl (by kernel_rfl) trivial rfl rfl (Y.idxN rfl Try.underlying27 I2 rfl rfl (by omega)) (#[true, true, true, true, true, true, true, true, true, true, true, false, false, false, false, false]) (by kernel_rfl) ?_
        refine GA.read (i := 11) (fun _ _ _ _ _ h => h) rfl (by kernel_rfl) (by kernel_rfl) trivial rfl rfl (Y.ldI (by first | exact ha.again _ | exact .next (ha.again _) | exact .next (.next (ha.again _))) rfl Try.underlying2 rfl rfl (by omega)) (#[true, true, true, true, true, true, true, true, true, true, true, true, false, false, false, false]) (by kernel_rfl) ?_
        refine GA.pure (i := 12) (fun _ _ _ _ _ h => h) rfl (by kernel_rfl) trivial rfl rfl (Y.idxN rfl Try.underlying27 I2 rfl rfl (by omega)) (#[true, true, true, true, true, true, true, true, true, true, true, true, true, false, false, false]) (by kernel_rfl) ?_
        refine GA.one (i := 13) rfl (by kernel_rfl) (#[true, true, true, true, true, true, true, true, true, true, true, true, true, true, false, false]) (by kernel_rfl) ?_
        refine G.stI (by first | exact ha.again _ | exact .next (ha.again _) | exact .next (.next (ha.again _))) rfl trivial rfl I2 rfl rfl (by first | omega | (simp only [Array.size_setIfInBounds]; omega)) ?_
        refine G.nil ?_
        refine ⟨fun _ h => absurd h (by simp [hit]), ?_⟩
        refine GA.pure (i := 14) (fun _ _ _ _ _ h => h) rfl (by kernel_rfl) trivial rfl rfl (Y.idxN rfl Try.underlying27 I2 rfl rfl (by omega)) (#[true, true, true, true, true, true, true, true, true, true, true, true, true, true, true, false]) (by kernel_rfl) ?_
        refine GA.one (i := 15) rfl (by kernel_rfl) (#[true, true, true, true, true, true, true, true, true, true, true, true, true, true, true, true]) (by kernel_rfl) ?_
        refine G.stI (by first | exact ha.again _ | exact .next (ha.again _) | exact .next (.next (ha.again _))) rfl trivial rfl I2 rfl rfl (by first | omega | (simp only [Array.size_setIfInBounds]; omega)) ?_
        refine G.nil ?_
        refine ⟨fun _ h => absurd h (by simp [hit]), ?_⟩
        refine GA.done (by kernel_rfl) ?_
        refine C.seq ?_
        refine C.region ?_
        refine G.moveI rfl trivial rfl rfl rfl ?_
        refine G.addN (j := 1) rfl trivial rfl rfl rfl rfl (by omega) ?_
        refine G.assignI rfl trivial rfl rfl rfl ?_
        refine G.nil ?_
        refine C.seq ?_
        refine C.region ?_
        refine G.moveI rfl trivial rfl rfl rfl ?_
        refine G.subN (j := 1) rfl trivial rfl rfl rfl rfl (by omega) ?_
        refine G.assignI rfl trivial rfl rfl rfl ?_
        refine G.nil ?_
        refine C.seq ?_
        refine C.block ?_
        refine C.loop (fun m F D' L' => ∃ (i1 j1 : Nat) (e : Array Int), m = j1 + 1 - i1 + 0 ∧ a + 1 ≤ i1 ∧ i1 ≤ b ∧ a ≤ j1 ∧ j1 ≤ b - 1 ∧ e.size = n ∧ partLoop ltInt a i1 j1 e = partLoop ltInt a (i + 1) (j - 1) (swp (swp d a p) i j) ∧ F 0 = .slice (some ⟨bk, 0, none⟩) n cap ∧ F 1 = .int .i64 (a : Int) ∧ F 10 = .int .i64 (i1 : Int) ∧ F 11 = .int .i64 (j1 : Int) ∧ D' = [] ∧ u bk (.row (ic e rest) te kk) = L') ⟨_, ⟨i + 1, j - 1, _, rfl, by omega, by omega, by omega, by omega, by rw [swp_size]; exact hsz, rfl, rfl, rfl, rfl, rfl, rfl, rfl⟩⟩ ?_
        rintro m F D' L' ⟨i1, j1, e, rfl, hi3, hi4, hj3, hj4, he, hpl, h0, h1, h10, h11, rfl, rfl⟩
        refine C.fix (d := 0) h0 ?_
        refine C.fix (d := 1) h1 ?_
        refine C.fix (d := 10) h10 ?_
        refine C.fix (d := 11) h11 ?_
        refine C.block ?_
        refine C.cut (fun F D' L' => ∃ i2 : Nat, scanUp (fun x => ltInt x e[a]!) e j1 i1 = i2 ∧ i1 ≤ i2 ∧ i2 ≤ b ∧ F 0 = .slice (some ⟨bk, 0, none⟩) n cap ∧ F 1 = .int .i64 (a : Int) ∧ F 10 = .int .i64 (i2 : Int) ∧ F 11 = .int .i64 (j1 : Int) ∧ D' = [] ∧ u bk (.row (ic (e) rest) te kk) = L') ?_ ?_
        ·
          refine C.block ?_
          refine C.loop (fun m F D' L' => ∃ (i2 : Nat), m = b + 1 - i2 ∧ i1 ≤ i2 ∧ i2 ≤ b ∧ scanUp (fun x => ltInt x e[a]!) e j1 i2 = scanUp (fun x => ltInt x e[a]!) e j1 i1 ∧ F 0 = .slice (some ⟨bk, 0, none⟩) n cap ∧ F 1 = .int .i64 (a : Int) ∧ F 10 = .int .i64 (i2 : Int) ∧ F 11 = .int .i64 (j1 : Int) ∧ D' = [] ∧ u bk (.row (ic (e) rest) te kk) = L') ⟨_, ⟨i1, rfl, by omega, by omega, rfl, rfl, rfl, rfl, rfl, rfl, rfl⟩⟩ ?_
          rintro m F D' L' ⟨i2, rfl, hi5, hi6, hsc2, h0, h1, h10, h11, rfl, rfl⟩
          refine C.fix (d := 0) h0 ?_
          refine C.fix (d := 1) h1 ?_
          refine C.fix (d := 10) h10 ?_
          refine C.fix (d := 11) h11 ?_
          refine C.seq ?_
          refine C.seq ?_
          refine C.drawn mixed (_) [] (fun _ h => h) ?_
          refine GA.pure (i := 0) (fun _ _ _ _ _ h => h) rfl (by kernel_rfl) trivial rfl rfl (Y.moveI rfl rfl) (#[true, false, false, false, false, false, false, false, false, false, false, false, false, false]) (by kernel_rfl) ?_
          refine GA.pure (i := 1) (fun _ _ _ _ _ h => h) rfl (by kernel_rfl) trivial rfl rfl (Y.moveI rfl rfl) (#[true, true, false, false, false, false, false, false, false, false, false, false, false, false]) (by kernel_rfl) ?_
          refine GA.pure (i := 2) (fun _ _ _ _ _ h => h) rfl (by kernel_rfl) trivial rfl rfl (Y.bin rfl rfl rfl rfl) (#[true, true, true, false, false, false, false, false, false, false, false, false, false, false]) (by kernel_rfl) ?_
          refine GA.pure (i := 3) (fun _ _ _ _ _ h => h) rfl (by kernel_rfl) trivial rfl rfl (Y.moveB rfl rfl) (#[true, true, true, true, false, false, false, false, false, false, false, false, false, false]) (by kernel_rfl) ?_
          refine GA.fork (t := 102) _ rfl ?_ ?_
          · intro hg102
            refine GA.pure (i := 4) (fun _ _ _ _ _ h => h) rfl (by kernel_rfl) ⟨_, rfl, rfl, rfl⟩ rfl rfl (Y.moveS rfl rfl) (#[true, true, true, true, true, false, false, false, false, false, false, false, false, false]) (by kernel_rfl) ?_
            refine GA.pure (i := 5) (fun _ _ _ _ _ h => h) rfl (by kernel_rfl) ⟨_, rfl, rfl, rfl⟩ rfl rfl (Y.moveI rfl rfl) (#[true, true, true, true, true, true, false, false, false, false, false, false, false, false]) (by kernel_rfl) ?_
            refine GA.pure (i := 6) (fun _ _ _ _ _ h => h) rfl (by kernel_rfl) ⟨_, rfl, rfl, rfl⟩ rfl rfl (Y.idxN rfl Try.underlying27 I2 rfl rfl (by omega)) (#[true, true, true, true, true, true, true, false, false, false, false, false, false, false]) (by kernel_rfl) ?_
            refine GA.read (i := 7) (fun _ _ _ _ _ h => h) rfl (by kernel_rfl) (by kernel_rfl) ⟨_, rfl, rfl, rfl⟩ rfl rfl (Y.ldI (by first | exact ha.again _ | exact .next (ha.again _) | exact .next (.next (ha.again _))) rfl Try.underlying2 rfl rfl (by omega)) (#[true, true, true, true, true, true, true, true, false, false, false, false, false, false]) (by kernel_rfl) ?_
            refine GA.pure (i := 8) (fun _ _ _ _ _ h => h) rfl (by kernel_rfl) ⟨_, rfl, rfl, rfl⟩ rfl rfl (Y.moveS rfl rfl) (#[true, true, true, true, true, true, true, true, true, false, false, false, false, false]) (by kernel_rfl) ?_
            refine GA.pure (i := 9) (fun _ _ _ _ _ h => h) rfl (by kernel_rfl) ⟨_, rfl, rfl, rfl⟩ rfl rfl (Y.moveI rfl rfl) (#[true, true, true, true, true, true, true, true, true, true, false, false, false, false]) (by kernel_rfl) ?_
            refine GA.pure (i := 10) (fun _ _ _ _ _ h => h) rfl (by kernel_rfl) ⟨_, rfl, rfl, rfl⟩ rfl rfl (Y.idxN rfl Try.underlying27 I2 rfl rfl (by omega)) (#[true, true, true, true, true, true, true, true, true, true, true, false, false, false]) (by kernel_rfl) ?_
            refine GA.read (i := 11) (fun _ _ _ _ _ h => h) rfl (by kernel_rfl) (by kernel_rfl) ⟨_, rfl, rfl, rfl⟩ rfl rfl (Y.ldI (by first | exact ha.again _ | exact .next (ha.again _) | exact .next (.next (ha.again _))) rfl Try.underlying2 rfl rfl (by omega)) (#[true, true, true, true, true, true, true, true, true, true, true, true, false, false]) (by kernel_rfl) ?_
            refine GA.one (i := 12) rfl (by kernel_rfl) (#[true, true, true, true, true, true, true, true, true, true, true, true, true, false]) (by kernel_rfl) ?_
            refine G.call E60 rfl rfl ⟨_, rfl, rfl, rfl⟩ rfl rfl (less_spec W0 _ _ _) rfl ?_
            rintro e L2 ⟨rfl, rfl⟩
            refine G.nil ?_
            refine ⟨fun _ _ h => h, ?_⟩
            first | refine GA.pure (i := 13) (fun _ _ _ _ _ h => h) rfl (by kernel_rfl) trivial rfl rfl (Y.pickT rfl rfl rfl) (#[true, true, true, true, true, true, true, true, true, true, true, true, true, true]) (by kernel_rfl) ?_ | refine GA.pure (i := 13) (fun _ _ _ _ _ h => h) rfl (by kernel_rfl) trivial rfl rfl (Y.pickF rfl rfl rfl) (#[true, true, true, true, true, true, true, true, true, true, true, true, true, true]) (by kernel_rfl) ?_
            refine GA.done (by kernel_rfl) ?_
            refine C.cond _ rfl ?_ ?_
            · intro hc3
              refine C.skip ?_
              refine C.block ?_
              refine C.region ?_
              refine G.moveI rfl trivial rfl rfl rfl ?_
              refine G.addN (j := 1) rfl trivial rfl rfl rfl rfl (by omega) ?_
              refine G.assignI rfl trivial rfl rfl rfl ?_
              refine G.nil ?_
              exact ⟨b + 1 - (i2 + 1), by omega, i2 + 1, rfl, by omega, by omega, by rw [← hsc2]; exact (scanUp_go (by omega) (by simpa [ltInt] using hc3)).symm, rfl, rfl, rfl, rfl, rfl, rfl⟩
            · intro hc3
              refine C.exit ?_
              exact ⟨i2, by rw [← hsc2]; exact scanUp_end (fun hle => by first | exact absurd hle (by omega) | simpa [ltInt] using hc3), by omega, by omega, rfl, rfl, rfl, rfl, rfl, rfl⟩
          · intro hg102
            refine GA.skip (i := 4) (fun _ _ _ _ _ h => h) rfl (by kernel_rfl) rfl rfl rfl rfl rfl rfl (#[true, true, true, true, true, false, false, false, false, false, false, false, false, false]) (by kernel_rfl) ?_
            refine GA.skip (i := 5) (fun _ _ _ _ _ h => h) rfl (by kernel_rfl) rfl rfl rfl rfl rfl rfl (#[true, true, true, true, true, true, false, false, false, false, false, false, false, false]) (by kernel_rfl) ?_
            refine GA.skip (i := 6) (fun _ _ _ _ _ h => h) rfl (by kernel_rfl) rfl rfl rfl rfl rfl rfl (#[true, true, true, true, true, true, true, false, false, false, false, false, false, false]) (by kernel_rfl) ?_
            refine GA.skip (i := 7) (fun _ _ _ _ _ h => h) rfl (by kernel_rfl) rfl rfl rfl rfl rfl rfl (#[true, true, true, true, true, true, true, true, false, false, false, false, false, false]) (by kernel_rfl) ?_
            refine GA.skip (i := 8) (fun _ _ _ _ _ h => h) rfl (by kernel_rfl) rfl rfl rfl rfl rfl rfl (#[true, true, true, true, true, true, true, true, true, false, false, false, false, false]) (by kernel_rfl) ?_
            refine GA.skip (i := 9) (fun _ _ _ _ _ h => h) rfl (by kernel_rfl) rfl rfl rfl rfl rfl rfl (#[true, true, true, true, true, true, true, true, true, true, false, false, false, false]) (by kernel_rfl) ?_
            refine GA.skip (i := 10) (fun _ _ _ _ _ h => h) rfl (by kernel_rfl) rfl rfl rfl rfl rfl rfl (#[true, true, true, true, true, true, true, true, true, true, true, false, false, false]) (by kernel_rfl) ?_
            refine GA.skip (i := 11) (fun _ _ _ _ _ h => h) rfl (by kernel_rfl) rfl rfl rfl rfl rfl rfl (#[true, true, true, true, true, true, true, true, true, true, true, true, false, false]) (by kernel_rfl) ?_
            refine GA.skip (i := 12) (fun _ _ _ _ _ h => h) rfl (by kernel_rfl) rfl rfl rfl rfl rfl rfl (#[true, true, true, true, true, true, true, true, true, true, true, true, true, false]) (by kernel_rfl) ?_
            first | refine GA.pure (i := 13) (fun _ _ _ _ _ h => h) rfl (by kernel_rfl) trivial rfl rfl (Y.pickT rfl rfl rfl) (#[true, true, true, true, true, true, true, true, true, true, true, true, true, true]) (by kernel_rfl) ?_ | refine GA.pure (i := 13) (fun _ _ _ _ _ h => h) rfl (by kernel_rfl) trivial rfl rfl (Y.pickF rfl rfl rfl) (#[true, true, true, true, true, true, true, true, true, true, true, true, true, true]) (by kernel_rfl) ?_
            refine GA.done (by kernel_rfl) ?_
            refine C.condF rfl ?_
            refine C.exit ?_
            exact ⟨i2, by rw [← hsc2]; exact scanUp_end (fun hle => by first | exact absurd hle (by omega) | simpa [ltInt] using hc3), by omega, by omega, rfl, rfl, rfl, rfl, rfl, rfl⟩
        ·
          rintro F D' L' ⟨i2, hiE2, hi5, hi6, h0, h1, h10, h11, rfl, rfl⟩
          refine C.fix (d := 0) h0 ?_
          refine C.fix (d := 1) h1 ?_
          refine C.fix (d := 10) h10 ?_
          refine C.fix (d := 11) h11 ?_
          refine C.cut (fun F D' L' => ∃ j2 : Nat, scanDown (fun x => !ltInt x e[a]!) e i2 j1 = j2 ∧ a ≤ j2 ∧ j2 ≤ j1 ∧ F 0 = .slice (some ⟨bk, 0, none⟩) n cap ∧ F 1 = .int .i64 (a : Int) ∧ F 10 = .int .i64 (i2 : Int) ∧ F 11 = .int .i64 (j2 : Int) ∧ D' = [] ∧ u bk (.row (ic (e) rest) te kk) = L') ?_ ?_
          ·
            refine C.block ?_
            refine C.loop (fun m F D' L' => ∃ (j2 : Nat), m = j2 + 1 ∧ a ≤ j2 ∧ j2 ≤ j1 ∧ scanDown (fun x => !ltInt x e[a]!) e i2 j2 = scanDown (fun x => !ltInt x e[a]!) e i2 j1 ∧ F 0 = .slice (some ⟨bk, 0, none⟩) n cap ∧ F 1 = .int .i64 (a : Int) ∧ F 10 = .int .i64 (i2 : Int) ∧ F 11 = .int .i64 (j2 : Int) ∧ D' = [] ∧ u bk (.row (ic (e) rest) te kk) = L') ⟨_, ⟨j1, rfl, by omega, by omega, rfl, rfl, rfl, rfl, rfl, rfl, rfl⟩⟩ ?_
            rintro m F D' L' ⟨j2, rfl, hj5, hj6, hsd2, h0, h1, h10, h11, rfl, rfl⟩
            refine C.fix (d := 0) h0 ?_
            refine C.fix (d := 1) h1 ?_
            refine C.fix (d := 10) h10 ?_
            refine C.fix (d := 11) h11 ?_
            refine C.seq ?_
            refine C.seq ?_
            refine C.drawn mixed (_) [] (fun _ h => h) ?_
            refine GA.pure (i := 0) (fun _ _ _ _ _ h => h) rfl (by kernel_rfl) trivial rfl rfl (Y.moveI rfl rfl) (#[true, false, false, false, false, false, false, false, false, false, false, false, false, false, false]) (by kernel_rfl) ?_
            refine GA.pure (i := 1) (fun _ _ _ _ _ h => h) rfl (by kernel_rfl) trivial rfl rfl (Y.moveI rfl rfl) (#[true, true, false, false, false, false, false, false, false, false, false, false, false, false, false]) (by kernel_rfl) ?_
            refine GA.pure (i := 2) (fun _ _ _ _ _ h => h) rfl (by kernel_rfl) trivial rfl rfl (Y.bin rfl rfl rfl rfl) (#[true, true, true, false, false, false, false, false, false, false, false, false, false, false, false]) (by kernel_rfl) ?_
            refine GA.pure (i := 3) (fun _ _ _ _ _ h => h) rfl (by kernel_rfl) trivial rfl rfl (Y.moveB rfl rfl) (#[true, true, true, true, false, false, false, false, false, false, false, false, false, false, false]) (by kernel_rfl) ?_
            refine GA.fork (t := 118) _ rfl ?_ ?_
            · intro hg118
              refine GA.pure (i := 4) (fun _ _ _ _ _ h => h) rfl (by kernel_rfl) ⟨_, rfl, rfl, rfl⟩ rfl rfl (Y.moveS rfl rfl) (#[true, true, true, true, true, false, false, false, false, false, false, false, false, false, false]) (by kernel_rfl) ?_
              refine GA.pure (i := 5) (fun _ _ _ _ _ h => h) rfl (by kernel_rfl) ⟨_, rfl, rfl, rfl⟩ rfl rfl (Y.moveI rfl rfl) (#[true, true, true, true, true, true, false, false, false, false, false, false, false, false, false]) (by kernel_rfl) ?_
              refine GA.pure (i := 6) (fun _ _ _ _ _ h => h) rfl (by kernel_rfl) ⟨_, rfl, rfl, rfl⟩ rfl rfl (Y.idxN rfl Try.underlying27 I2 rfl rfl (by omega)) (#[true, true, true, true, true, true, true, false, false, false, false, false, false, false, false]) (by kernel_rfl) ?_
              refine GA.read (i := 7) (fun _ _ _ _ _ h => h) rfl (by kernel_rfl) (by kernel_rfl) ⟨_, rfl, rfl, rfl⟩ rfl rfl (Y.ldI (by first | exact ha.again _ | exact .next (ha.again _) | exact .next (.next (ha.again _))) rfl Try.underlying2 rfl rfl (by omega)) (#[true, true, true, true, true, true, true, true, false, false, false, false, false, false, false]) (by kernel_rfl) ?_
              refine GA.pure (i := 8) (fun _ _ _ _ _ h => h) rfl (by kernel_rfl) ⟨_, rfl, rfl, rfl⟩ rfl rfl (Y.moveS rfl rfl) (#[true, true, true, true, true, true, true, true, true, false, false, false, false, false, false]) (by kernel_rfl) ?_
              refine GA.pure (i := 9) (fun _ _ _ _ _ h => h) rfl (by kernel_rfl) ⟨_, rfl, rfl, rfl⟩ rfl rfl (Y.moveI rfl rfl) (#[true, true, true, true, true, true, true, true, true, true, false, false, false, false, false]) (by kernel_rfl) ?_
              refine GA.pure (i := 10) (fun _ _ _ _ _ h => h) rfl (by kernel_rfl) ⟨_, rfl, rfl, rfl⟩ rfl rfl (Y.idxN rfl Try.underlying27 I2 rfl rfl (by omega)) (#[true, true, true, true, true, true, true, true, true, true, true, false, false, false, false]) (by kernel_rfl) ?_
              refine GA.read (i := 11) (fun _ _ _ _ _ h => h) rfl (by kernel_rfl) (by kernel_rfl) ⟨_, rfl, rfl, rfl⟩ rfl rfl (Y.ldI (by first | exact ha.again _ | exact .next (ha.again _) | exact .next (.next (ha.again _))) rfl Try.underlying2 rfl rfl (by omega)) (#[true, true, true, true, true, true, true, true, true, true, true, true, false, false, false]) (by kernel_rfl) ?_
              refine GA.one (i := 12) rfl (by kernel_rfl) (#[true, true, true, true, true, true, true, true, true, true, true, true, true, false, false]) (by kernel_rfl) ?_
              refine G.call E60 rfl rfl ⟨_, rfl, rfl, rfl⟩ rfl rfl (less_spec W0 _ _ _) rfl ?_
              rintro e L2 ⟨rfl, rfl⟩
              refine G.nil ?_
              refine ⟨fun _ _ h => h, ?_⟩
              first | refine GA.pure (i := 13) (fun _ _ _ _ _ h => h) rfl (by kernel_rfl) ⟨_, rfl, rfl, rfl⟩ rfl rfl (Y.notD rfl rfl) (#[true, true, true, true, true, true, true, true, true, true, true, true, true, true, false]) (by kernel_rfl) ?_ | refine GA.pure (i := 13) (fun _ _ _ _ _ h => h) rfl (by kernel_rfl) ⟨_, rfl, rfl, rfl⟩ rfl rfl (Y.not rfl rfl) (#[true, true, true, true, true, true, true, true, true, true, true, true, true, true, false]) (by kernel_rfl) ?_
              first | refine GA.pure (i := 14) (fun _ _ _ _ _ h => h) rfl (by kernel_rfl) trivial rfl rfl (Y.pickT rfl rfl rfl) (#[true, true, true, true, true, true, true, true, true, true, true, true, true, true, true]) (by kernel_rfl) ?_ | refine GA.pure (i := 14) (fun _ _ _ _ _ h => h) rfl (by kernel_rfl) trivial rfl rfl (Y.pickF rfl rfl rfl) (#[true, true, true, true, true, true, true, true, true, true, true, true, true, true, true]) (by kernel_rfl) ?_
              refine GA.done (by kernel_rfl) ?_
              refine C.cond _ rfl ?_ ?_
              · intro hc4
                refine C.skip ?_
                refine C.block ?_
                refine C.region ?_
                refine G.moveI rfl trivial rfl rfl rfl ?_
                refine G.subN (j := 1) rfl trivial rfl rfl rfl rfl (by omega) ?_
                refine G.assignI rfl trivial rfl rfl rfl ?_
                refine G.nil ?_
                exact ⟨j2 - 1 + 1, by omega, j2 - 1, rfl, by omega, by omega, by rw [← hsd2]; exact (scanDown_go (by omega) (by omega) (by simpa [ltInt] using hc4)).symm, rfl, rfl, rfl, rfl, rfl, rfl⟩
              · intro hc4
                refine C.exit ?_
                exact ⟨j2, by rw [← hsd2]; exact scanDown_end (fun hle => by first | exact absurd hle (by omega) | simpa [ltInt] using hc4), by omega, by omega, rfl, rfl, rfl, rfl, rfl, rfl⟩
            · intro hg118
              refine GA.skip (i := 4) (fun _ _ _ _ _ h => h) rfl (by kernel_rfl) rfl rfl rfl rfl rfl rfl (#[true, true, true, true, true, false, false, false, false, false, false, false, false, false, false]) (by kernel_rfl) ?_
              refine GA.skip (i := 5) (fun _ _ _ _ _ h => h) rfl (by kernel_rfl) rfl rfl rfl rfl rfl rfl (#[true, true, true, true, true, true, false, false, false, false, false, false, false, false, false]) (by kernel_rfl) ?_
              refine GA.skip (i := 6) (fun _ _ _ _ _ h => h) rfl (by kernel_rfl) rfl rfl rfl rfl rfl rfl (#[true, true, true, true, true, true, true, false, false, false, false, false, false, false, false]) (by kernel_rfl) ?_
              refine GA.skip (i := 7) (fun _ _ _ _ _ h => h) rfl (by kernel_rfl) rfl rfl rfl rfl rfl rfl (#[true, true, true, true, true, true, true, true, false, false, false, false, false, false, false]) (by kernel_rfl) ?_
              refine GA.skip (i := 8) (fun _ _ _ _ _ h => h) rfl (by kernel_rfl) rfl rfl rfl rfl rfl rfl (#[true, true, true, true, true, true, true, true, true, false, false, false, false, false, false]) (by kernel_rfl) ?_
              refine GA.skip (i := 9) (fun _ _ _ _ _ h => h) rfl (by kernel_rfl) rfl rfl rfl rfl rfl rfl (#[true, true, true, true, true, true, true, true, true, true, false, false, false, false, false]) (by kernel_rfl) ?_
              refine GA.skip (i := 10) (fun _ _ _ _ _ h => h) rfl (by kernel_rfl) rfl rfl rfl rfl rfl rfl (#[true, true, true, true, true, true, true, true, true, true, true, false, false, false, false]) (by kernel_rfl) ?_
              refine GA.skip (i := 11) (fun _ _ _ _ _ h => h) rfl (by kernel_rfl) rfl rfl rfl rfl rfl rfl (#[true, true, true, true, true, true, true, true, true, true, true, true, false, false, false]) (by kernel_rfl) ?_
              refine GA.skip (i := 12) (fun _ _ _ _ _ h => h) rfl (by kernel_rfl) rfl rfl rfl rfl rfl rfl (#[true, true, true, true, true, true, true, true, true, true, true, true, true, false, false]) (by kernel_rfl) ?_
              refine GA.skip (i := 13) (fun _ _ _ _ _ h => h) rfl (by kernel_rfl) rfl rfl rfl rfl rfl rfl (#[true, true, true, true, true, true, true, true, true, true, true, true, true, true, false]) (by kernel_rfl) ?_
              first | refine GA.pure (i := 14) (fun _ _ _ _ _ h => h) rfl (by kernel_rfl) trivial rfl rfl (Y.pickT rfl rfl rfl) (#[true, true, true, true, true, true, true, true, true, true, true, true, true, true, true]) (by kernel_rfl) ?_ | refine GA.pure (i := 14) (fun _ _ _ _ _ h => h) rfl (by kernel_rfl) trivial rfl rfl (Y.pickF rfl rfl rfl) (#[true, true, true, true, true, true, true, true, true, true, true, true, true, true, true]) (by kernel_rfl) ?_
              refine GA.done (by kernel_rfl) ?_
              refine C.condF rfl ?_
              refine C.exit ?_
              exact ⟨j2, by rw [← hsd2]; exact scanDown_end (fun hle => by first | exact absurd hle (by omega) | simpa [ltInt] using hc4), by omega, by omega, rfl, rfl, rfl, rfl, rfl, rfl⟩
          ·
            rintro F D' L' ⟨j2, hjE2, hj5, hj6, h0, h1, h10, h11, rfl, rfl⟩
            refine C.fix (d := 0) h0 ?_
            refine C.fix (d := 1) h1 ?_
            refine C.fix (d := 10) h10 ?_
            refine C.fix (d := 11) h11 ?_
            refine C.seq ?_
            refine C.seq ?_
            refine C.region ?_
            refine G.moveI rfl trivial rfl rfl rfl ?_
            refine G.moveI rfl trivial rfl rfl rfl ?_
            refine G.bin rfl trivial rfl rfl rfl rfl rfl ?_
            have hpe := partLoop_eq ltInt a i1 j1 e
            rw [hiE2, hjE2] at hpe
            refine G.nil ?_
            refine C.cond _ rfl ?_ ?_
            · intro hc5
              refine C.exit ?_
              refine C.seq ?_
              refine C.drawn mixed (_) [13, 15] (fun _ h => h) ?_
              refine GA.pure (i := 0) (fun _ _ _ _ _ h => h) rfl (by kernel_rfl) trivial rfl rfl (Y.moveS rfl rfl) (#[true, false, false, false, false, false, false, false, false, false, false, false, false, false, false, false]) (by kernel_rfl) ?_
              refine GA.pure (i := 1) (fun _ _ _ _ _ h => h) rfl (by kernel_rfl) trivial rfl rfl (Y.moveI rfl rfl) (#[true, true, false, false, false, false, false, false, false, false, false, false, false, false, false, false]) (by kernel_rfl) ?_
              refine GA.pure (i := 2) (fun _ _ _ _ _ h => h) rfl (by kernel_rfl) trivial rfl rfl (Y.moveS rfl rfl) (#[true, true, true, false, false, false, false, false, false, false, false, false, false, false, false, false]) (by kernel_rfl) ?_
              refine GA.pure (i := 3) (fun _ _ _ _ _ h => h) rfl (by kernel_rfl) trivial rfl rfl (Y.moveI rfl rfl) (#[true, true, true, true, false, false, false, false, false, false, false, false, false, false, false, false]) (by kernel_rfl) ?_
              refine GA.pure (i := 4) (fun _ _ _ _ _ h => h) rfl (by kernel_rfl) trivial rfl rfl (Y.moveS rfl rfl) (#[true, true, true, true, true, false, false, false, false, false, false, false, false, false, false, false]) (by kernel_rfl) ?_
              refine GA.pure (i := 5) (fun _ _ _ _ _ h => h) rfl (by kernel_rfl) trivial rfl rfl (Y.moveI rfl rfl) (#[true, true, true, true, true, true, false, false, false, false, false, false, false, false, false, false]) (by kernel_rfl) ?_
              refine GA.pure (i := 6) (fun _ _ _ _ _ h => h) rfl (by kernel_rfl) trivial rfl rfl (Y.idxN rfl Try.underlying27 I2 rfl rfl (by omega)) (#[true, true, true, true, true, true, true, false, false, false, false, false, false, false, false, false]) (by kernel_rfl) ?_
              refine GA.read (i := 7) (fun _ _ _ _ _ h => h) rfl (by kernel_rfl) (by kernel_rfl) trivial rfl rfl (Y.ldI (by first | exact ha.again _ | exact .next (ha.again _) | exact .next (.next (ha.again _))) rfl Try.underlying2 rfl rfl (by omega)) (#[true, true, true, true, true, true, true, true, false, false, false, false, false, false, false, false]) (by kernel_rfl) ?_
              refine GA.pure (i := 8) (fun _ _ _ _ _ h => h) rfl (by kernel_rfl) trivial rfl rfl (Y.moveS rfl rfl) (#[true, true, true, true, true, true, true, true, true, false, false, false, false, false, false, false]) (by kernel_rfl) ?_
              refine GA.pure (i := 9) (fun _ _ _ _ _ h => h) rfl (by kernel_rfl) trivial rfl rfl (Y.moveI rfl rfl) (#[true, true, true, true, true, true, true, true, true, true, false, false, false, false, false, false]) (by kernel_rfl) ?_
              refine GA.pure (i := 10) (fun _ _ _ _ _ h => h) rfl (by kernel_rfl) trivial rfl rfl (Y.idxN rfl Try.underlying27 I2 rfl rfl (by omega)) (#[true, true, true, true, true, true, true, true, true, true, true, false, false, false, false, false]) (by kernel_rfl) ?_
              refine GA.read (i := 11) (fun _ _ _ _ _ h => h) rfl (by kernel_rfl) (by kernel_rfl) trivial rfl rfl (Y.ldI (by first | exact ha.again _ | exact .next (ha.again _) | exact .next (.next (ha.again _))) rfl Try.underlying2 rfl rfl (by omega)) (#[true, true, true, true, true, true, true, true, true, true, true, true, false, false, false, false]) (by kernel_rfl) ?_
              refine GA.pure (i := 12) (fun _ _ _ _ _ h => h) rfl (by kernel_rfl) trivial rfl rfl (Y.idxN rfl Try.underlying27 I2 rfl rfl (by omega)) (#[true, true, true, true, true, true, true, true, true, true, true, true, true, false, false, false]) (by kernel_rfl) ?_
              refine GA.one (i := 13) rfl (by kernel_rfl) (#[true, true, true, true, true, true, true, true, true, true, true, true, true, true, false, false]) (by kernel_rfl) ?_
              refine G.stI (by first | exact ha.again _ | exact .next (ha.again _) | exact .next (.next (ha.again _))) rfl trivial rfl I2 rfl rfl (by first | omega | (simp only [Array.size_setIfInBounds]; omega)) ?_
              refine G.nil ?_
              refine ⟨fun _ h => absurd h (by simp [hit]), ?_⟩
              refine GA.pure (i := 14) (fun _ _ _ _ _ h => h) rfl (by kernel_rfl) trivial rfl rfl (Y.idxN rfl Try.underlying27 I2 rfl rfl (by omega)) (#[true, true, true, true, true, true, true, true, true, true, true, true, true, true, true, false]) (by kernel_rfl) ?_
              refine GA.one (i := 15) rfl (by kernel_rfl) (#[true, true, true, true, true, true, true, true, true, true, true, true, true, true, true, true]) (by kernel_rfl) ?_
              refine G.stI (by first | exact ha.again _ | exact .next (ha.again _) | exact .next (.next (ha.again _))) rfl trivial rfl I2 rfl rfl (by first | omega | (simp only [Array.size_setIfInBounds]; omega)) ?_
              refine G.nil ?_
              refine ⟨fun _ h => absurd h (by simp [hit]), ?_⟩
              refine GA.done (by kernel_rfl) ?_
              refine C.seq ?_
              refine C.region ?_
              refine G.moveI rfl trivial rfl rfl rfl ?_
              refine G.assignI rfl trivial rfl rfl rfl ?_
              refine G.assignB rfl trivial rfl rfl rfl ?_
              refine G.nil ?_
              refine C.ret ?_
              -- end c2Fc5T
              have hP := part_more hiE hjE (by omega)
              rw [← hpl, hpe, if_pos (by omega)] at hP
              exact ⟨rfl, _, Res.of (rs := [.tmp 8, .tmp 9]) rfl rfl, by rw [hP]; rfl, by rw [hP]; rfl⟩
            · intro hc5
              refine C.skip ?_
              refine C.seq ?_
              refine C.drawn mixed (_) [13, 15] (fun _ h => h) ?_
              refine GA.pure (i := 0) (fun _ _ _ _ _ h => h) rfl (by kernel_rfl) trivial rfl rfl (Y.moveS rfl rfl) (#[true, false, false, false, false, false, false, false, false, false, false, false, false, false, false, false]) (by kernel_rfl) ?_
              refine GA.pure (i := 1) (fun _ _ _ _ _ h => h) rfl (by kernel_rfl) trivial rfl rfl (Y.moveI rfl rfl) (#[true, true, false, false, false, false, false, false, false, false, false, false, false, false, false, false]) (by kernel_rfl) ?_
              refine GA.pure (i := 2) (fun _ _ _ _ _ h => h) rfl (by kernel_rfl) trivial rfl rfl (Y.moveS rfl rfl) (#[true, true, true, false, false, false, false, false, false, false, false, false, false, false, false, false]) (by kernel_rfl) ?_
              refine GA.pure (i := 3) (fun _ _ _ _ _ h => h) rfl (by kernel_rfl) trivial rfl rfl (Y.moveI rfl rfl) (#[true, true, true, true, false, false, false, false, false, false, false, false, false, false, false, false]) (by kernel_rfl) ?_
              refine GA.pure (i := 4) (fun _ _ _ _ _ h => h) rfl (by kernel_rfl) trivial rfl rfl (Y.moveS rfl rfl) (#[true, true, true, true, true, false, false, false, false, false, false, false, false, false, false, false]) (by kernel_rfl) ?_
              refine GA.pure (i := 5) (fun _ _ _ _ _ h => h) rfl (by kernel_rfl) trivial rfl rfl (Y.moveI rfl rfl) (#[true, true, true, true, true, true, false, false, false, false, false, false, false, false, false, false]) (by kernel_rfl) ?_
              refine GA.pure (i := 6) (fun _ _ _ _ _ h => h) rfl (by kernel_rfl) trivial rfl rfl (Y.idxN rfl Try.underlying27 I2 rfl rfl (by omega)) (#[true, true, true, true, true, true, true, false, false, false, false, false, false, false, false, false]) (by kernel_rfl) ?_
              refine GA.read (i := 7) (fun _ _ _ _ _ h => h) rfl (by kernel_rfl) (by kernel_rfl) trivial rfl rfl (Y.ldI (by first | exact ha.again _ | exact .next (ha.again _) | exact .next (.next (ha.again _))) rfl Try.underlying2 rfl rfl (by omega)) (#[true, true, true, true, true, true, true, true, false, false, false, false, false, false, false, false]) (by kernel_rfl) ?_
              refine GA.pure (i := 8) (fun _ _ _ _ _ h => h) rfl (by kernel_rfl) trivial rfl rfl (Y.moveS rfl rfl) (#[true, true, true, true, true, true, true, true, true, false, false, false, false, false, false, false]) (by kernel_rfl) ?_
              refine GA.pure (i := 9) (fun _ _ _ _ _ h => h) rfl (by kernel_rfl) trivial rfl rfl (Y.moveI rfl rfl) (#[true, true, true, true, true, true, true, true, true, true, false, false, false, false, false, false]) (by kernel_rfl) ?_
              refine GA.pure (i := 10) (fun _ _ _ _ _ h => h) rfl (by kernel_rfl) trivial rfl rfl (Y.idxN rfl Try.underlying27 I2 rfl rfl (by omega)) (#[true, true, true, true, true, true, true, true, true, true, true, false, false, false, false, false]) (by kernel_rfl) ?_
              refine GA.read (i := 11) (fun _ _ _ _ _ h => h) rfl (by kernel_rfl) (by kernel_rfl) trivial rfl rfl (Y.ldI (by first | exact ha.again _ | exact .next (ha.again _) | exact .next (.next (ha.again _))) rfl Try.underlying2 rfl rfl (by omega)) (#[true, true, true, true, true, true, true, true, true, true, true, true, false, false, false, false]) (by kernel_rfl) ?_
              refine GA.pure (i := 12) (fun _ _ _ _ _ h => h) rfl (by kernel_rfl) trivial rfl rfl (Y.idxN rfl Try.underlying27 I2 rfl rfl (by omega)) (#[true, true, true, true, true, true, true, true, true, true, true, true, true, false, false, false]) (by kernel_rfl) ?_
              refine GA.one (i := 13) rfl (by kernel_rfl) (#[true, true, true, true, true, true, true, true, true, true, true, true, true, true, false, false]) (by kernel_rfl) ?_
              refine G.stI (by first | exact ha.again _ | exact .next (ha.again _) | exact .next (.next (ha.again _))) rfl trivial rfl I2 rfl rfl (by first | omega | (simp only [Array.size_setIfInBounds]; omega)) ?_
              refine G.nil ?_
              refine ⟨fun _ h => absurd h (by simp [hit]), ?_⟩
              refine GA.pure (i := 14) (fun _ _ _ _ _ h => h) rfl (by kernel_rfl) trivial rfl rfl (Y.idxN rfl Try.underlying27 I2 rfl rfl (by omega)) (#[true, true, true, true, true, true, true, true, true, true, true, true, true, true, true, false]) (by kernel_rfl) ?_
              refine GA.one (i := 15) rfl (by kernel_rfl) (#[true, true, true, true, true, true, true, true, true, true, true, true, true, true, true, true]) (by kernel_rfl) ?_
              refine G.stI (by first | exact ha.again _ | exact .next (ha.again _) | exact .next (.next (ha.again _))) rfl trivial rfl I2 rfl rfl (by first | omega | (simp only [Array.size_setIfInBounds]; omega)) ?_
              refine G.nil ?_
              refine ⟨fun _ h => absurd h (by simp [hit]), ?_⟩
              refine GA.done (by kernel_rfl) ?_
              refine C.seq ?_
              refine C.region ?_
              refine G.moveI rfl trivial rfl rfl rfl ?_
              refine G.addN (j := 1) rfl trivial rfl rfl rfl rfl (by omega) ?_
              refine G.assignI rfl trivial rfl rfl rfl ?_
              refine G.nil ?_
              refine C.region ?_
              refine G.moveI rfl trivial rfl rfl rfl ?_
              refine G.subN (j := 1) rfl trivial rfl rfl rfl rfl (by omega) ?_
              refine G.assignI rfl trivial rfl rfl rfl ?_
              refine G.nil ?_
              exact ⟨j2 - 1 + 1 - (i2 + 1) + 0, by omega, i2 + 1, j2 - 1, swp e i2 j2, rfl, by omega, by omega, by omega, by omega, by rw [swp_size]; exact he, by rw [← hpl, hpe, if_neg (by omega)], rfl, rfl, rfl, rfl, rfl, rfl⟩
end sort
end Go.Proofs.Ytomiidlbfcfpiaa
