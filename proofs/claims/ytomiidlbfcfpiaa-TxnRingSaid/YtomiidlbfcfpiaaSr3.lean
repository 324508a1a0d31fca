/-
  The library's sort: the heap, and the patterns broken, walked.
-/
import Derived.Test.YtomiidlbfcfpiaaSr2
namespace Go.Proofs.Ytomiidlbfcfpiaa
open Go Go.SL Go.RowKit Go.Sort

theorem sift_end {hi f r : Nat} {d : Array Int} (h : 2 * r + 1 ≥ hi) : siftDown ltInt hi f r d = d := by
  unfold siftDown
  rw [dif_pos h]
theorem sift_right {hi f r : Nat} {d : Array Int} (h : ¬ 2 * r + 1 ≥ hi) (h1 : 2 * r + 1 + 1 < hi ∧ d[f + (2 * r + 1)]! < d[f + (2 * r + 1) + 1]!) :
    siftDown ltInt hi f r d = if d[f + r]! < d[f + (2 * r + 1 + 1)]! then siftDown ltInt hi f (2 * r + 1 + 1) (swp d (f + r) (f + (2 * r + 1 + 1))) else d := by
  conv => lhs; unfold siftDown
  rw [dif_neg h, if_pos (by simp only [ltInt, Bool.and_eq_true, decide_eq_true_eq]; exact h1)]
  by_cases h2 : d[f + r]! < d[f + (2 * r + 1 + 1)]!
  · rw [if_pos h2, if_neg (by simp [ltInt]; exact h2), dif_pos (by omega)]
  · rw [if_neg h2, if_pos (by simp [ltInt]; exact Int.not_lt.1 h2)]
theorem sift_left {hi f r : Nat} {d : Array Int} (h : ¬ 2 * r + 1 ≥ hi) (h1 : ¬ (2 * r + 1 + 1 < hi ∧ d[f + (2 * r + 1)]! < d[f + (2 * r + 1) + 1]!)) :
    siftDown ltInt hi f r d = if d[f + r]! < d[f + (2 * r + 1)]! then siftDown ltInt hi f (2 * r + 1) (swp d (f + r) (f + (2 * r + 1))) else d := by
  conv => lhs; unfold siftDown
  rw [dif_neg h, if_neg (by simp only [ltInt, Bool.and_eq_true, decide_eq_true_eq]; exact h1)]
  by_cases h2 : d[f + r]! < d[f + (2 * r + 1)]!
  · rw [if_pos h2, if_neg (by simp [ltInt]; exact h2)]
  · rw [if_neg h2, if_pos (by simp [ltInt]; exact Int.not_lt.1 h2)]
theorem sift_size (hi f : Nat) : ∀ (m r : Nat) (d : Array Int), hi - r ≤ m → (siftDown ltInt hi f r d).size = d.size := by
  intro m
  induction m with
  | zero => intro r d h; rw [sift_end (by omega)]
  | succ m ih =>
    intro r d h
    by_cases h0 : 2 * r + 1 ≥ hi
    · rw [sift_end h0]
    · by_cases h1 : 2 * r + 1 + 1 < hi ∧ d[f + (2 * r + 1)]! < d[f + (2 * r + 1) + 1]!
      · rw [sift_right h0 h1]
        split
        · rw [ih _ _ (by omega), swp_size]
        · rfl
      · rw [sift_left h0 h1]
        split
        · rw [ih _ _ (by omega), swp_size]
        · rfl
theorem and_u64 {r q : Nat} (hq : q < 18446744073709551616) : ∃ o : Nat, Value.int .u64 (IntKind.u64.wrap ((BitVec.ofInt 64 (r : Int) &&& BitVec.ofInt 64 (q : Int)).toNat : Int)) = .int .u64 (o : Int) ∧ o ≤ q := by
  have h1 : (BitVec.ofInt 64 (r : Int) &&& BitVec.ofInt 64 (q : Int)).toNat ≤ q := by
    rw [BitVec.toNat_and, BitVec.ofInt_natCast, BitVec.ofInt_natCast]
    refine Nat.le_trans Nat.and_le_right ?_
    rw [BitVec.toNat_ofNat]
    exact Nat.mod_le _ _
  exact ⟨_, by rw [wrap_u64 (by omega)], h1⟩
section sort
variable (W0 : World) {bk : Nat} {o0 : SObj} {L0 : List Seg} {u : Nat → SObj → List Seg} (ha : At L0 bk o0 u) (te : TypeId) (kk n cap : Nat) (rest : List Value) (hn : n ≤ 2305843009213693952)
include ha hn
theorem sift_spec (d : Array Int) (hd : d.size = n) (lo hi f : Nat) (hf : f + hi ≤ n) (hl : lo ≤ n) :
    Sorts W0 67 #[.slice (some ⟨bk, 0, none⟩) n cap, .int .i64 lo, .int .i64 hi, .int .i64 f] (u bk (.row (ic d rest) te kk)) (u bk (.row (ic (siftDown ltInt hi f lo d) rest) te kk)) := by
  unfold Sorts
  refine FnS.of (args := [.slice (some ⟨bk, 0, none⟩) n cap, .int .i64 (lo : Int), .int .i64 (hi : Int), .int .i64 (f : Int)]) Try.func67 rfl rfl ?_
  refine C.seq ?_
  refine C.region ?_
  refine G.moveI rfl trivial rfl rfl rfl ?_
  refine G.assignI rfl trivial rfl rfl rfl ?_
  refine G.nil ?_
  refine C.block ?_
  refine C.loop (fun m F D' L' => ∃ (r : Nat) (e : Array Int), m = hi - r + 0 ∧ r ≤ n ∧ e.size = n ∧ siftDown ltInt hi f r e = siftDown ltInt hi f lo d ∧ F 0 = .slice (some ⟨bk, 0, none⟩) n cap ∧ F 2 = .int .i64 (hi : Int) ∧ F 3 = .int .i64 (f : Int) ∧ F 8 = .int .i64 (r : Int) ∧ D' = [] ∧ u bk (.row (ic e rest) te kk) = L') ⟨_, ⟨lo, d, rfl, hl, hd, rfl, rfl, rfl, rfl, rfl, rfl, rfl⟩⟩ ?_
  rintro m F D' L' ⟨r, e, rfl, hr, he, hre, h0, h2, h3, h8, rfl, rfl⟩
  refine C.fix (d := 0) h0 ?_
  refine C.fix (d := 2) h2 ?_
  refine C.fix (d := 3) h3 ?_
  refine C.fix (d := 8) h8 ?_
  refine C.block ?_
  refine C.seq ?_
  refine C.region ?_
  refine G.moveI rfl trivial rfl rfl rfl ?_
  refine G.mulN (i := 2) rfl trivial rfl rfl rfl rfl (by omega) ?_
  refine G.addN (j := 1) rfl trivial rfl rfl rfl rfl (by omega) ?_
  refine G.assignI rfl trivial rfl rfl rfl ?_
  refine G.nil ?_
  refine C.seq ?_
  refine C.seq ?_
  refine C.region ?_
  refine G.moveI rfl trivial rfl rfl rfl ?_
  refine G.moveI rfl trivial rfl rfl rfl ?_
  refine G.bin rfl trivial rfl rfl rfl rfl rfl ?_
  refine G.nil ?_
  refine C.cond _ rfl ?_ ?_
  · intro hc0
    refine C.exit ?_
    -- end c0T
    exact ⟨rfl, _, Res.of (rs := []) rfl rfl, by rw [← hre, sift_end (by omega)], rfl⟩
  · intro hc0
    have hlt : ¬ 2 * r + 1 ≥ hi := by omega
    refine C.skip ?_
    refine C.seq ?_
    refine C.seq ?_
    refine C.drawn mixed (_) [] (fun _ h => h) ?_
    refine GA.pure (i := 0) (fun _ _ _ _ _ h => h) rfl (by kernel_rfl) trivial rfl rfl (Y.moveI rfl rfl) (#[true, false, false, false, false, false, false, false, false, false, false, false, false, false, false, false, false, false, false, false]) (by kernel_rfl) ?_
    refine GA.pure (i := 1) (fun _ _ _ _ _ h => h) rfl (by kernel_rfl) trivial rfl rfl (Y.addN (j := 1) rfl rfl rfl (by omega)) (#[true, true, false, false, false, false, false, false, false, false, false, false, false, false, false, false, false, false, false, false]) (by kernel_rfl) ?_
    refine GA.pure (i := 2) (fun _ _ _ _ _ h => h) rfl (by kernel_rfl) trivial rfl rfl (Y.moveI rfl rfl) (#[true, true, true, false, false, false, false, false, false, false, false, false, false, false, false, false, false, false, false, false]) (by kernel_rfl) ?_
    refine GA.pure (i := 3) (fun _ _ _ _ _ h => h) rfl (by kernel_rfl) trivial rfl rfl (Y.bin rfl rfl rfl rfl) (#[true, true, true, true, false, false, false, false, false, false, false, false, false, false, false, false, false, false, false, false]) (by kernel_rfl) ?_
    refine GA.pure (i := 4) (fun _ _ _ _ _ h => h) rfl (by kernel_rfl) trivial rfl rfl (Y.moveB rfl rfl) (#[true, true, true, true, true, false, false, false, false, false, false, false, false, false, false, false, false, false, false, false]) (by kernel_rfl) ?_
    refine GA.fork (t := 21) _ rfl ?_ ?_
    · intro hg21
      refine GA.pure (i := 5) (fun _ _ _ _ _ h => h) rfl (by kernel_rfl) ⟨_, rfl, rfl, rfl⟩ rfl rfl (Y.moveS rfl rfl) (#[true, true, true, true, true, true, false, false, false, false, false, false, false, false, false, false, false, false, false, false]) (by kernel_rfl) ?_
      refine GA.pure (i := 6) (fun _ _ _ _ _ h => h) rfl (by kernel_rfl) ⟨_, rfl, rfl, rfl⟩ rfl rfl (Y.moveI rfl rfl) (#[true, true, true, true, true, true, true, false, false, false, false, false, false, false, false, false, false, false, false, false]) (by kernel_rfl) ?_
      refine GA.pure (i := 7) (fun _ _ _ _ _ h => h) rfl (by kernel_rfl) ⟨_, rfl, rfl, rfl⟩ rfl rfl (Y.moveI rfl rfl) (#[true, true, true, true, true, true, true, true, false, false, false, false, false, false, false, false, false, false, false, false]) (by kernel_rfl) ?_
      refine GA.pure (i := 8) (fun _ _ _ _ _ h => h) rfl (by kernel_rfl) ⟨_, rfl, rfl, rfl⟩ rfl rfl (Y.addN rfl rfl rfl (by omega)) (#[true, true, true, true, true, true, true, true, true, false, false, false, false, false, false, false, false, false, false, false]) (by kernel_rfl) ?_
      refine GA.pure (i := 9) (fun _ _ _ _ _ h => h) rfl (by kernel_rfl) ⟨_, rfl, rfl, rfl⟩ rfl rfl (Y.idxN rfl Try.underlying27 I2 rfl rfl (by omega)) (#[true, true, true, true, true, true, true, true, true, true, false, false, false, false, false, false, false, false, false, false]) (by kernel_rfl) ?_
      refine GA.read (i := 10) (fun _ _ _ _ _ h => h) rfl (by kernel_rfl) (by kernel_rfl) ⟨_, rfl, rfl, rfl⟩ rfl rfl (Y.ldI (by first | exact ha.again _ | exact .next (ha.again _) | exact .next (.next (ha.again _))) rfl Try.underlying2 rfl rfl (by omega)) (#[true, true, true, true, true, true, true, true, true, true, true, false, false, false, false, false, false, false, false, false]) (by kernel_rfl) ?_
      refine GA.pure (i := 11) (fun _ _ _ _ _ h => h) rfl (by kernel_rfl) ⟨_, rfl, rfl, rfl⟩ rfl rfl (Y.moveS rfl rfl) (#[true, true, true, true, true, true, true, true, true, true, true, true, false, false, false, false, false, false, false, false]) (by kernel_rfl) ?_
      refine GA.pure (i := 12) (fun _ _ _ _ _ h => h) rfl (by kernel_rfl) ⟨_, rfl, rfl, rfl⟩ rfl rfl (Y.moveI rfl rfl) (#[true, true, true, true, true, true, true, true, true, true, true, true, true, false, false, false, false, false, false, false]) (by kernel_rfl) ?_
      refine GA.pure (i := 13) (fun _ _ _ _ _ h => h) rfl (by kernel_rfl) ⟨_, rfl, rfl, rfl⟩ rfl rfl (Y.moveI rfl rfl) (#[true, true, true, true, true, true, true, true, true, true, true, true, true, true, false, false, false, false, false, false]) (by kernel_rfl) ?_
      refine GA.pure (i := 14) (fun _ _ _ _ _ h => h) rfl (by kernel_rfl) ⟨_, rfl, rfl, rfl⟩ rfl rfl (Y.addN rfl rfl rfl (by omega)) (#[true, true, true, true, true, true, true, true, true, true, true, true, true, true, true, false, false, false, false, false]) (by kernel_rfl) ?_
      refine GA.pure (i := 15) (fun _ _ _ _ _ h => h) rfl (by kernel_rfl) ⟨_, rfl, rfl, rfl⟩ rfl rfl (Y.addN (j := 1) rfl rfl rfl (by omega)) (#[true, true, true, true, true, true, true, true, true, true, true, true, true, true, true, true, false, false, false, false]) (by kernel_rfl) ?_
      refine GA.pure (i := 16) (fun _ _ _ _ _ h => h) rfl (by kernel_rfl) ⟨_, rfl, rfl, rfl⟩ rfl rfl (Y.idxN rfl Try.underlying27 I2 rfl rfl (by omega)) (#[true, true, true, true, true, true, true, true, true, true, true, true, true, true, true, true, true, false, false, false]) (by kernel_rfl) ?_
      refine GA.read (i := 17) (fun _ _ _ _ _ h => h) rfl (by kernel_rfl) (by kernel_rfl) ⟨_, rfl, rfl, rfl⟩ rfl rfl (Y.ldI (by first | exact ha.again _ | exact .next (ha.again _) | exact .next (.next (ha.again _))) rfl Try.underlying2 rfl rfl (by omega)) (#[true, true, true, true, true, true, true, true, true, true, true, true, true, true, true, true, true, true, false, false]) (by kernel_rfl) ?_
      refine GA.one (i := 18) rfl (by kernel_rfl) (#[true, true, true, true, true, true, true, true, true, true, true, true, true, true, true, true, true, true, true, false]) (by kernel_rfl) ?_
      refine G.call E60 rfl rfl ⟨_, rfl, rfl, rfl⟩ rfl rfl (less_spec W0 _ _ _) rfl ?_
      rintro e L2 ⟨rfl, rfl⟩
      refine G.nil ?_
      refine ⟨fun _ _ h => h, ?_⟩
      first | refine GA.pure (i := 19) (fun _ _ _ _ _ h => h) rfl (by kernel_rfl) trivial rfl rfl (Y.pickT rfl rfl rfl) (#[true, true, true, true, true, true, true, true, true, true, true, true, true, true, true, true, true, true, true, true]) (by kernel_rfl) ?_ | refine GA.pure (i := 19) (fun _ _ _ _ _ h => h) rfl (by kernel_rfl) trivial rfl rfl (Y.pickF rfl rfl rfl) (#[true, true, true, true, true, true, true, true, true, true, true, true, true, true, true, true, true, true, true, true]) (by kernel_rfl) ?_
      refine GA.done (by kernel_rfl) ?_
      refine C.cond _ rfl ?_ ?_
      · intro hc1
        have hs := sift_right hlt (d := e) (f := f) ⟨by omega, hc1⟩
        refine C.region ?_
        refine G.moveI rfl trivial rfl rfl rfl ?_
        refine G.addN (j := 1) rfl trivial rfl rfl rfl rfl (by omega) ?_
        refine G.assignI rfl trivial rfl rfl rfl ?_
        refine G.nil ?_
        refine C.seq ?_
        refine C.seq ?_
        refine C.drawn mixed (_) [] (fun _ h => h) ?_
        refine GA.pure (i := 0) (fun _ _ _ _ _ h => h) rfl (by kernel_rfl) trivial rfl rfl (Y.moveS rfl rfl) (#[true, false, false, false, false, false, false, false, false, false, false, false, false, false]) (by kernel_rfl) ?_
        refine GA.pure (i := 1) (fun _ _ _ _ _ h => h) rfl (by kernel_rfl) trivial rfl rfl (Y.moveI rfl rfl) (#[true, true, false, false, false, false, false, false, false, false, false, false, false, false]) (by kernel_rfl) ?_
        refine GA.pure (i := 2) (fun _ _ _ _ _ h => h) rfl (by kernel_rfl) trivial rfl rfl (Y.moveI rfl rfl) (#[true, true, true, false, false, false, false, false, false, false, false, false, false, false]) (by kernel_rfl) ?_
        refine GA.pure (i := 3) (fun _ _ _ _ _ h => h) rfl (by kernel_rfl) trivial rfl rfl (Y.addN rfl rfl rfl (by omega)) (#[true, true, true, true, false, false, false, false, false, false, false, false, false, false]) (by kernel_rfl) ?_
        refine GA.pure (i := 4) (fun _ _ _ _ _ h => h) rfl (by kernel_rfl) trivial rfl rfl (Y.idxN rfl Try.underlying27 I2 rfl rfl (by omega)) (#[true, true, true, true, true, false, false, false, false, false, false, false, false, false]) (by kernel_rfl) ?_
        refine GA.read (i := 5) (fun _ _ _ _ _ h => h) rfl (by kernel_rfl) (by kernel_rfl) trivial rfl rfl (Y.ldI (by first | exact ha.again _ | exact .next (ha.again _) | exact .next (.next (ha.again _))) rfl Try.underlying2 rfl rfl (by omega)) (#[true, true, true, true, true, true, false, false, false, false, false, false, false, false]) (by kernel_rfl) ?_
        refine GA.pure (i := 6) (fun _ _ _ _ _ h => h) rfl (by kernel_rfl) trivial rfl rfl (Y.moveS rfl rfl) (#[true, true, true, true, true, true, true, false, false, false, false, false, false, false]) (by kernel_rfl) ?_
        refine GA.pure (i := 7) (fun _ _ _ _ _ h => h) rfl (by kernel_rfl) trivial rfl rfl (Y.moveI rfl rfl) (#[true, true, true, true, true, true, true, true, false, false, false, false, false, false]) (by kernel_rfl) ?_
        refine GA.pure (i := 8) (fun _ _ _ _ _ h => h) rfl (by kernel_rfl) trivial rfl rfl (Y.moveI rfl rfl) (#[true, true, true, true, true, true, true, true, true, false, false, false, false, false]) (by kernel_rfl) ?_
        refine GA.pure (i := 9) (fun _ _ _ _ _ h => h) rfl (by kernel_rfl) trivial rfl rfl (Y.addN rfl rfl rfl (by omega)) (#[true, true, true, true, true, true, true, true, true, true, false, false, false, false]) (by kernel_rfl) ?_
        refine GA.pure (i := 10) (fun _ _ _ _ _ h => h) rfl (by kernel_rfl) trivial rfl rfl (Y.idxN rfl Try.underlying27 I2 rfl rfl (by omega)) (#[true, true, true, true, true, true, true, true, true, true, true, false, false, false]) (by kernel_rfl) ?_
        refine GA.read (i := 11) (fun _ _ _ _ _ h => h) rfl (by kernel_rfl) (by kernel_rfl) trivial rfl rfl (Y.ldI (by first | exact ha.again _ | exact .next (ha.again _) | exact .next (.next (ha.again _))) rfl Try.underlying2 rfl rfl (by omega)) (#[true, true, true, true, true, true, true, true, true, true, true, true, false, false]) (by kernel_rfl) ?_
        refine GA.one (i := 12) rfl (by kernel_rfl) (#[true, true, true, true, true, true, true, true, true, true, true, true, true, false]) (by kernel_rfl) ?_
        refine G.call E60 rfl rfl trivial rfl rfl (less_spec W0 _ _ _) rfl ?_
        rintro e L2 ⟨rfl, rfl⟩
        refine G.nil ?_
        refine ⟨fun _ _ h => h, ?_⟩
        first | refine GA.pure (i := 13) (fun _ _ _ _ _ h => h) rfl (by kernel_rfl) trivial rfl rfl (Y.notD rfl rfl) (#[true, true, true, true, true, true, true, true, true, true, true, true, true, true]) (by kernel_rfl) ?_ | refine GA.pure (i := 13) (fun _ _ _ _ _ h => h) rfl (by kernel_rfl) trivial rfl rfl (Y.not rfl rfl) (#[true, true, true, true, true, true, true, true, true, true, true, true, true, true]) (by kernel_rfl) ?_
        refine GA.done (by kernel_rfl) ?_
        refine C.cond _ rfl ?_ ?_
        · intro hc2
          refine C.ret ?_
          -- end c0Fg21Tc1Tc2T
          exact ⟨rfl, _, Res.of (rs := []) rfl rfl, by rw [← hre, hs, if_neg hc2], rfl⟩
        · intro hc2
          refine C.skip ?_
          refine C.seq ?_
          refine C.drawn mixed (_) [21, 23] (fun _ h => h) ?_
          refine GA.pure (i := 0) (fun _ _ _ _ _ h => h) rfl (by kernel_rfl) trivial rfl rfl (Y.moveS rfl rfl) (#[true, false, false, false, false, false, false, false, false, false, false, false, false, false, false, false, false, false, false, false, false, false, false, false]) (by kernel_rfl) ?_
          refine GA.pure (i := 1) (fun _ _ _ _ _ h => h) rfl (by kernel_rfl) trivial rfl rfl (Y.moveI rfl rfl) (#[true, true, false, false, false, false, false, false, false, false, false, false, false, false, false, false, false, false, false, false, false, false, false, false]) (by kernel_rfl) ?_
          refine GA.pure (i := 2) (fun _ _ _ _ _ h => h) rfl (by kernel_rfl) trivial rfl rfl (Y.moveI rfl rfl) (#[true, true, true, false, false, false, false, false, false, false, false, false, false, false, false, false, false, false, false, false, false, false, false, false]) (by kernel_rfl) ?_
          refine GA.pure (i := 3) (fun _ _ _ _ _ h => h) rfl (by kernel_rfl) trivial rfl rfl (Y.addN rfl rfl rfl (by omega)) (#[true, true, true, true, false, false, false, false, false, false, false, false, false, false, false, false, false, false, false, false, false, false, false, false]) (by kernel_rfl) ?_
          refine GA.pure (i := 4) (fun _ _ _ _ _ h => h) rfl (by kernel_rfl) trivial rfl rfl (Y.moveS rfl rfl) (#[true, true, true, true, true, false, false, false, false, false, false, false, false, false, false, false, false, false, false, false, false, false, false, false]) (by kernel_rfl) ?_
          refine GA.pure (i := 5) (fun _ _ _ _ _ h => h) rfl (by kernel_rfl) trivial rfl rfl (Y.moveI rfl rfl) (#[true, true, true, true, true, true, false, false, false, false, false, false, false, false, false, false, false, false, false, false, false, false, false, false]) (by kernel_rfl) ?_
          refine GA.pure (i := 6) (fun _ _ _ _ _ h => h) rfl (by kernel_rfl) trivial rfl rfl (Y.moveI rfl rfl) (#[true, true, true, true, true, true, true, false, false, false, false, false, false, false, false, false, false, false, false, false, false, false, false, false]) (by kernel_rfl) ?_
          refine GA.pure (i := 7) (fun _ _ _ _ _ h => h) rfl (by kernel_rfl) trivial rfl rfl (Y.addN rfl rfl rfl (by omega)) (#[true, true, true, true, true, true, true, true, false, false, false, false, false, false, false, false, false, false, false, false, false, false, false, false]) (by kernel_rfl) ?_
          refine GA.pure (i := 8) (fun _ _ _ _ _ h => h) rfl (by kernel_rfl) trivial rfl rfl (Y.moveS rfl rfl) (#[true, true, true, true, true, true, true, true, true, false, false, false, false, false, false, false, false, false, false, false, false, false, false, false]) (by kernel_rfl) ?_
          refine GA.pure (i := 9) (fun _ _ _ _ _ h => h) rfl (by kernel_rfl) trivial rfl rfl (Y.moveI rfl rfl) (#[true, true, true, true, true, true, true, true, true, true, false, false, false, false, false, false, false, false, false, false, false, false, false, false]) (by kernel_rfl) ?_
          refine GA.pure (i := 10) (fun _ _ _ _ _ h => h) rfl (by kernel_rfl) trivial rfl rfl (Y.moveI rfl rfl) (#[true, true, true, true, true, true, true, true, true, true, true, false, false, false, false, false, false, false, false, false, false, false, false, false]) (by kernel_rfl) ?_
          refine GA.pure (i := 11) (fun _ _ _ _ _ h => h) rfl (by kernel_rfl) trivial rfl rfl (Y.addN rfl rfl rfl (by omega)) (#[true, true, true, true, true, true, true, true, true, true, true, true, false, false, false, false, false, false, false, false, false, false, false, false]) (by kernel_rfl) ?_
          refine GA.pure (i := 12) (fun _ _ _ _ _ h => h) rfl (by kernel_rfl) trivial rfl rfl (Y.idxN rfl Try.underlying27 I2 rfl rfl (by omega)) (#[true, true, true, true, true, true, true, true, true, true, true, true, true, false, false, false, false, false, false, false, false, false, false, false]) (by kernel_rfl) ?_
          refine GA.read (i := 13) (fun _ _ _ _ _ h => h) rfl (by kernel_rfl) (by kernel_rfl) trivial rfl rfl (Y.ldI (by first | exact ha.again _ | exact .next (ha.again _) | exact .next (.next (ha.again _))) rfl Try.underlying2 rfl rfl (by omega)) (#[true, true, true, true, true, true, true, true, true, true, true, true, true, true, false, false, false, false, false, false, false, false, false, false]) (by kernel_rfl) ?_
          refine GA.pure (i := 14) (fun _ _ _ _ _ h => h) rfl (by kernel_rfl) trivial rfl rfl (Y.moveS rfl rfl) (#[true, true, true, true, true, true, true, true, true, true, true, true, true, true, true, false, false, false, false, false, false, false, false, false]) (by kernel_rfl) ?_
          refine GA.pure (i := 15) (fun _ _ _ _ _ h => h) rfl (by kernel_rfl) trivial rfl rfl (Y.moveI rfl rfl) (#[true, true, true, true, true, true, true, true, true, true, true, true, true, true, true, true, false, false, false, false, false, false, false, false]) (by kernel_rfl) ?_
          refine GA.pure (i := 16) (fun _ _ _ _ _ h => h) rfl (by kernel_rfl) trivial rfl rfl (Y.moveI rfl rfl) (#[true, true, true, true, true, true, true, true, true, true, true, true, true, true, true, true, true, false, false, false, false, false, false, false]) (by kernel_rfl) ?_
          refine GA.pure (i := 17) (fun _ _ _ _ _ h => h) rfl (by kernel_rfl) trivial rfl rfl (Y.addN rfl rfl rfl (by omega)) (#[true, true, true, true, true, true, true, true, true, true, true, true, true, true, true, true, true, true, false, false, false, false, false, false]) (by kernel_rfl) ?_
          refine GA.pure (i := 18) (fun _ _ _ _ _ h => h) rfl (by kernel_rfl) trivial rfl rfl (Y.idxN rfl Try.underlying27 I2 rfl rfl (by omega)) (#[true, true, true, true, true, true, true, true, true, true, true, true, true, true, true, true, true, true, true, false, false, false, false, false]) (by kernel_rfl) ?_
          refine GA.read (i := 19) (fun _ _ _ _ _ h => h) rfl (by kernel_rfl) (by kernel_rfl) trivial rfl rfl (Y.ldI (by first | exact ha.again _ | exact .next (ha.again _) | exact .next (.next (ha.again _))) rfl Try.underlying2 rfl rfl (by omega)) (#[true, true, true, true, true, true, true, true, true, true, true, true, true, true, true, true, true, true, true, true, false, false, false, false]) (by kernel_rfl) ?_
          refine GA.pure (i := 20) (fun _ _ _ _ _ h => h) rfl (by kernel_rfl) trivial rfl rfl (Y.idxN rfl Try.underlying27 I2 rfl rfl (by omega)) (#[true, true, true, true, true, true, true, true, true, true, true, true, true, true, true, true, true, true, true, true, true, false, false, false]) (by kernel_rfl) ?_
          refine GA.one (i := 21) rfl (by kernel_rfl) (#[true, true, true, true, true, true, true, true, true, true, true, true, true, true, true, true, true, true, true, true, true, true, false, false]) (by kernel_rfl) ?_
          refine G.stI (by first | exact ha.again _ | exact .next (ha.again _) | exact .next (.next (ha.again _))) rfl trivial rfl I2 rfl rfl (by first | omega | (simp only [Array.size_setIfInBounds]; omega)) ?_
          refine G.nil ?_
          refine ⟨fun _ h => absurd h (by simp [hit]), ?_⟩
          refine GA.pure (i := 22) (fun _ _ _ _ _ h => h) rfl (by kernel_rfl) trivial rfl rfl (Y.idxN rfl Try.underlying27 I2 rfl rfl (by omega)) (#[true, true, true, true, true, true, true, true, true, true, true, true, true, true, true, true, true, true, true, true, true, true, true, false]) (by kernel_rfl) ?_
          refine GA.one (i := 23) rfl (by kernel_rfl) (#[true, true, true, true, true, true, true, true, true, true, true, true, true, true, true, true, true, true, true, true, true, true, true, true]) (by kernel_rfl) ?_
          refine G.stI (by first | exact ha.again _ | exact .next (ha.again _) | exact .next (.next (ha.again _))) rfl trivial rfl I2 rfl rfl (by first | omega | (simp only [Array.size_setIfInBounds]; omega)) ?_
          refine G.nil ?_
          refine ⟨fun _ h => absurd h (by simp [hit]), ?_⟩
          refine GA.done (by kernel_rfl) ?_
          refine C.region ?_
          refine G.moveI rfl trivial rfl rfl rfl ?_
          refine G.assignI rfl trivial rfl rfl rfl ?_
          refine G.nil ?_
          refine ⟨hi - (2 * r + 1 + 1) + 0, by omega, 2 * r + 1 + 1, swp e (f + r) (f + (2 * r + 1 + 1)), rfl, by omega, by rw [swp_size]; exact he, ?_, rfl, rfl, rfl, rfl, rfl, rfl⟩
          rw [← hre, hs, if_pos (by omega)]
      · intro hc1
        have hs := sift_left hlt (d := e) (f := f) (fun h => hc1 h.2)
        refine C.skip ?_
        refine C.seq ?_
        refine C.seq ?_
        refine C.drawn mixed (_) [] (fun _ h => h) ?_
        refine GA.pure (i := 0) (fun _ _ _ _ _ h => h) rfl (by kernel_rfl) trivial rfl rfl (Y.moveS rfl rfl) (#[true, false, false, false, false, false, false, false, false, false, false, false, false, false]) (by kernel_rfl) ?_
        refine GA.pure (i := 1) (fun _ _ _ _ _ h => h) rfl (by kernel_rfl) trivial rfl rfl (Y.moveI rfl rfl) (#[true, true, false, false, false, false, false, false, false, false, false, false, false, false]) (by kernel_rfl) ?_
        refine GA.pure (i := 2) (fun _ _ _ _ _ h => h) rfl (by kernel_rfl) trivial rfl rfl (Y.moveI rfl rfl) (#[true, true, true, false, false, false, false, false, false, false, false, false, false, false]) (by kernel_rfl) ?_
        refine GA.pure (i := 3) (fun _ _ _ _ _ h => h) rfl (by kernel_rfl) trivial rfl rfl (Y.addN rfl rfl rfl (by omega)) (#[true, true, true, true, false, false, false, false, false, false, false, false, false, false]) (by kernel_rfl) ?_
        refine GA.pure (i := 4) (fun _ _ _ _ _ h => h) rfl (by kernel_rfl) trivial rfl rfl (Y.idxN rfl Try.underlying27 I2 rfl rfl (by omega)) (#[true, true, true, true, true, false, false, false, false, false, false, false, false, false]) (by kernel_rfl) ?_
        refine GA.read (i := 5) (fun _ _ _ _ _ h => h) rfl (by kernel_rfl) (by kernel_rfl) trivial rfl rfl (Y.ldI (by first | exact ha.again _ | exact .next (ha.again _) | exact .next (.next (ha.again _))) rfl Try.underlying2 rfl rfl (by omega)) (#[true, true, true, true, true, true, false, false, false, false, false, false, false, false]) (by kernel_rfl) ?_
        refine GA.pure (i := 6) (fun _ _ _ _ _ h => h) rfl (by kernel_rfl) trivial rfl rfl (Y.moveS rfl rfl) (#[true, true, true, true, true, true, true, false, false, false, false, false, false, false]) (by kernel_rfl) ?_
        refine GA.pure (i := 7) (fun _ _ _ _ _ h => h) rfl (by kernel_rfl) trivial rfl rfl (Y.moveI rfl rfl) (#[true, true, true, true, true, true, true, true, false, false, false, false, false, false]) (by kernel_rfl) ?_
        refine GA.pure (i := 8) (fun _ _ _ _ _ h => h) rfl (by kernel_rfl) trivial rfl rfl (Y.moveI rfl rfl) (#[true, true, true, true, true, true, true, true, true, false, false, false, false, false]) (by kernel_rfl) ?_
        refine GA.pure (i := 9) (fun _ _ _ _ _ h => h) rfl (by kernel_rfl) trivial rfl rfl (Y.addN rfl rfl rfl (by omega)) (#[true, true, true, true, true, true, true, true, true, true, false, false, false, false]) (by kernel_rfl) ?_
        refine GA.pure (i := 10) (fun _ _ _ _ _ h => h) rfl (by kernel_rfl) trivial rfl rfl (Y.idxN rfl Try.underlying27 I2 rfl rfl (by omega)) (#[true, true, true, true, true, true, true, true, true, true, true, false, false, false]) (by kernel_rfl) ?_
        refine GA.read (i := 11) (fun _ _ _ _ _ h => h) rfl (by kernel_rfl) (by kernel_rfl) trivial rfl rfl (Y.ldI (by first | exact ha.again _ | exact .next (ha.again _) | exact .next (.next (ha.again _))) rfl Try.underlying2 rfl rfl (by omega)) (#[true, true, true, true, true, true, true, true, true, true, true, true, false, false]) (by kernel_rfl) ?_
        refine GA.one (i := 12) rfl (by kernel_rfl) (#[true, true, true, true, true, true, true, true, true, true, true, true, true, false]) (by kernel_rfl) ?_
        refine G.call E60 rfl rfl trivial rfl rfl (less_spec W0 _ _ _) rfl ?_
        rintro e L2 ⟨rfl, rfl⟩
        refine G.nil ?_
        refine ⟨fun _ _ h => h, ?_⟩
        first | refine GA.pure (i := 13) (fun _ _ _ _ _ h => h) rfl (by kernel_rfl) trivial rfl rfl (Y.notD rfl rfl) (#[true, true, true, true, true, true, true, true, true, true, true, true, true, true]) (by kernel_rfl) ?_ | refine GA.pure (i := 13) (fun _ _ _ _ _ h => h) rfl (by kernel_rfl) trivial rfl rfl (Y.not rfl rfl) (#[true, true, true, true, true, true, true, true, true, true, true, true, true, true]) (by kernel_rfl) ?_
        refine GA.done (by kernel_rfl) ?_
        refine C.cond _ rfl ?_ ?_
        · intro hc2
          refine C.ret ?_
          -- end c0Fg21Tc1Fc2T
          exact ⟨rfl, _, Res.of (rs := []) rfl rfl, by rw [← hre, hs, if_neg hc2], rfl⟩
        · intro hc2
          refine C.skip ?_
          refine C.seq ?_
          refine C.drawn mixed (_) [21, 23] (fun _ h => h) ?_
          refine GA.pure (i := 0) (fun _ _ _ _ _ h => h) rfl (by kernel_rfl) trivial rfl rfl (Y.moveS rfl rfl) (#[true, false, false, false, false, false, false, false, false, false, false, false, false, false, false, false, false, false, false, false, false, false, false, false]) (by kernel_rfl) ?_
          refine GA.pure (i := 1) (fun _ _ _ _ _ h => h) rfl (by kernel_rfl) trivial rfl rfl (Y.moveI rfl rfl) (#[true, true, false, false, false, false, false, false, false, false, false, false, false, false, false, false, false, false, false, false, false, false, false, false]) (by kernel_rfl) ?_
          refine GA.pure (i := 2) (fun _ _ _ _ _ h => h) rfl (by kernel_rfl) trivial rfl rfl (Y.moveI rfl rfl) (#[true, true, true, false, false, false, false, false, false, false, false, false, false, false, false, false, false, false, false, false, false, false, false, false]) (by kernel_rfl) ?_
          refine GA.pure (i := 3) (fun _ _ _ _ _ h => h) rfl (by kernel_rfl) trivial rfl rfl (Y.addN rfl rfl rfl (by omega)) (#[true, true, true, true, false, false, false, false, false, false, false, false, false, false, false, false, false, false, false, false, false, false, false, false]) (by kernel_rfl) ?_
          refine GA.pure (i := 4) (fun _ _ _ _ _ h => h) rfl (by kernel_rfl) trivial rfl rfl (Y.moveS rfl rfl) (#[true, true, true, true, true, false, false, false, false, false, false, false, false, false, false, false, false, false, false, false, false, false, false, false]) (by kernel_rfl) ?_
          refine GA.pure (i := 5) (fun _ _ _ _ _ h => h) rfl (by kernel_rfl) trivial rfl rfl (Y.moveI rfl rfl) (#[true, true, true, true, true, true, false, false, false, false, false, false, false, false, false, false, false, false, false, false, false, false, false, false]) (by kernel_rfl) ?_
          refine GA.pure (i := 6) (fun _ _ _ _ _ h => h) rfl (by kernel_rfl) trivial rfl rfl (Y.moveI rfl rfl) (#[true, true, true, true, true, true, true, false, false, false, false, false, false, false, false, false, false, false, false, false, false, false, false, false]) (by kernel_rfl) ?_
          refine GA.pure (i := 7) (fun _ _ _ _ _ h => h) rfl (by kernel_rfl) trivial rfl rfl (Y.addN rfl rfl rfl (by omega)) (#[true, true, true, true, true, true, true, true, false, false, false, false, false, false, false, false, false, false, false, false, false, false, false, false]) (by kernel_rfl) ?_
          refine GA.pure (i := 8) (fun _ _ _ _ _ h => h) rfl (by kernel_rfl) trivial rfl rfl (Y.moveS rfl rfl) (#[true, true, true, true, true, true, true, true, true, false, false, false, false, false, false, false, false, false, false, false, false, false, false, false]) (by kernel_rfl) ?_
          refine GA.pure (i := 9) (fun _ _ _ _ _ h => h) rfl (by kernel_rfl) trivial rfl rfl (Y.moveI rfl rfl) (#[true, true, true, true, true, true, true, true, true, true, false, false, false, false, false, false, false, false, false, false, false, false, false, false]) (by kernel_rfl) ?_
          refine GA.pure (i := 10) (fun _ _ _ _ _ h => h) rfl (by kernel_rfl) trivial rfl rfl (Y.moveI rfl rfl) (#[true, true, true, true, true, true, true, true, true, true, true, false, false, false, false, false, false, false, false, false, false, false, false, false]) (by kernel_rfl) ?_
          refine GA.pure (i := 11) (fun _ _ _ _ _ h => h) rfl (by kernel_rfl) trivial rfl rfl (Y.addN rfl rfl rfl (by omega)) (#[true, true, true, true, true, true, true, true, true, true, true, true, false, false, false, false, false, false, false, false, false, false, false, false]) (by kernel_rfl) ?_
          refine GA.pure (i := 12) (fun _ _ _ _ _ h => h) rfl (by kernel_rfl) trivial rfl rfl (Y.idxN rfl Try.underlying27 I2 rfl rfl (by omega)) (#[true, true, true, true, true, true, true, true, true, true, true, true, true, false, false, false, false, false, false, false, false, false, false, false]) (by kernel_rfl) ?_
          refine GA.read (i := 13) (fun _ _ _ _ _ h => h) rfl (by kernel_rfl) (by kernel_rfl) trivial rfl rfl (Y.ldI (by first | exact ha.again _ | exact .next (ha.again _) | exact .next (.next (ha.again _))) rfl Try.underlying2 rfl rfl (by omega)) (#[true, true, true, true, true, true, true, true, true, true, true, true, true, true, false, false, false, false, false, false, false, false, false, false]) (by kernel_rfl) ?_
          refine GA.pure (i := 14) (fun _ _ _ _ _ h => h) rfl (by kernel_rfl) trivial rfl rfl (Y.moveS rfl rfl) (#[true, true, true, true, true, true, true, true, true, true, true, true, true, true, true, false, false, false, false, false, false, false, false, false]) (by kernel_rfl) ?_
          refine GA.pure (i := 15) (fun _ _ _ _ _ h => h) rfl (by kernel_rfl) trivial rfl rfl (Y.moveI rfl rfl) (#[true, true, true, true, true, true, true, true, true, true, true, true, true, true, true, true, false, false, false, false, false, false, false, false]) (by kernel_rfl) ?_
          refine GA.pure (i := 16) (fun _ _ _ _ _ h => h) rfl (by kernel_rfl) trivial rfl rfl (Y.moveI rfl rfl) (#[true, true, true, true, true, true, true, true, true, true, true, true, true, true, true, true, true, false, false, false, false, false, false, false]) (by kernel_rfl) ?_
          refine GA.pure (i := 17) (fun _ _ _ _ _ h => h) rfl (by kernel_rfl) trivial rfl rfl (Y.addN rfl rfl rfl (by omega)) (#[true, true, true, true, true, true, true, true, true, true, true, true, true, true, true, true, true, true, false, false, false, false, false, false]) (by kernel_rfl) ?_
          refine GA.pure (i := 18) (fun _ _ _ _ _ h => h) rfl (by kernel_rfl) trivial rfl rfl (Y.idxN rfl Try.underlying27 I2 rfl rfl (by omega)) (#[true, true, true, true, true, true, true, true, true, true, true, true, true, true, true, true, true, true, true, false, false, false, false, false]) (by kernel_rfl) ?_
          refine GA.read (i := 19) (fun _ _ _ _ _ h => h) rfl (by kernel_rfl) (by kernel_rfl) trivial rfl rfl (Y.ldI (by first | exact ha.again _ | exact .next (ha.again _) | exact .next (.next (ha.again _))) rfl Try.underlying2 rfl rfl (by omega)) (#[true, true, true, true, true, true, true, true, true, true, true, true, true, true, true, true, true, true, true, true, false, false, false, false]) (by kernel_rfl) ?_
          refine GA.pure (i := 20) (fun _ _ _ _ _ h => h) rfl (by kernel_rfl) trivial rfl rfl (Y.idxN rfl Try.underlying27 I2 rfl rfl (by omega)) (#[true, true, true, true, true, true, true, true, true, true, true, true, true, true, true, true, true, true, true, true, true, false, false, false]) (by kernel_rfl) ?_
          refine GA.one (i := 21) rfl (by kernel_rfl) (#[true, true, true, true, true, true, true, true, true, true, true, true, true, true, true, true, true, true, true, true, true, true, false, false]) (by kernel_rfl) ?_
          refine G.stI (by first | exact ha.again _ | exact .next (ha.again _) | exact .next (.next (ha.again _))) rfl trivial rfl I2 rfl rfl (by first | omega | (simp only [Array.size_setIfInBounds]; omega)) ?_
          refine G.nil ?_
          refine ⟨fun _ h => absurd h (by simp [hit]), ?_⟩
          refine GA.pure (i := 22) (fun _ _ _ _ _ h => h) rfl (by kernel_rfl) trivial rfl rfl (Y.idxN rfl Try.underlying27 I2 rfl rfl (by omega)) (#[true, true, true, true, true, true, true, true, true, true, true, true, true, true, true, true, true, true, true, true, true, true, true, false]) (by kernel_rfl) ?_
          refine GA.one (i := 23) rfl (by kernel_rfl) (#[true, true, true, true, true, true, true, true, true, true, true, true, true, true, true, true, true, true, true, true, true, true, true, true]) (by kernel_rfl) ?_
          refine G.stI (by first | exact ha.again _ | exact .next (ha.again _) | exact .next (.next (ha.again _))) rfl trivial rfl I2 rfl rfl (by first | omega | (simp only [Array.size_setIfInBounds]; omega)) ?_
          refine G.nil ?_
          refine ⟨fun _ h => absurd h (by simp [hit]), ?_⟩
          refine GA.done (by kernel_rfl) ?_
          refine C.region ?_
          refine G.moveI rfl trivial rfl rfl rfl ?_
          refine G.assignI rfl trivial rfl rfl rfl ?_
          refine G.nil ?_
          refine ⟨hi - (2 * r + 1) + 0, by omega, 2 * r + 1, swp e (f + r) (f + (2 * r + 1)), rfl, by omega, by rw [swp_size]; exact he, ?_, rfl, rfl, rfl, rfl, rfl, rfl⟩
          rw [← hre, hs, if_pos (by omega)]
    · intro hg21
      refine GA.skip (i := 5) (fun _ _ _ _ _ h => h) rfl (by kernel_rfl) rfl rfl rfl rfl rfl rfl (#[true, true, true, true, true, true, false, false, false, false, false, false, false, false, false, false, false, false, false, false]) (by kernel_rfl) ?_
      refine GA.skip (i := 6) (fun _ _ _ _ _ h => h) rfl (by kernel_rfl) rfl rfl rfl rfl rfl rfl (#[true, true, true, true, true, true, true, false, false, false, false, false, false, false, false, false, false, false, false, false]) (by kernel_rfl) ?_
      refine GA.skip (i := 7) (fun _ _ _ _ _ h => h) rfl (by kernel_rfl) rfl rfl rfl rfl rfl rfl (#[true, true, true, true, true, true, true, true, false, false, false, false, false, false, false, false, false, false, false, false]) (by kernel_rfl) ?_
      refine GA.skip (i := 8) (fun _ _ _ _ _ h => h) rfl (by kernel_rfl) rfl rfl rfl rfl rfl rfl (#[true, true, true, true, true, true, true, true, true, false, false, false, false, false, false, false, false, false, false, false]) (by kernel_rfl) ?_
      refine GA.skip (i := 9) (fun _ _ _ _ _ h => h) rfl (by kernel_rfl) rfl rfl rfl rfl rfl rfl (#[true, true, true, true, true, true, true, true, true, true, false, false, false, false, false, false, false, false, false, false]) (by kernel_rfl) ?_
      refine GA.skip (i := 10) (fun _ _ _ _ _ h => h) rfl (by kernel_rfl) rfl rfl rfl rfl rfl rfl (#[true, true, true, true, true, true, true, true, true, true, true, false, false, false, false, false, false, false, false, false]) (by kernel_rfl) ?_
      refine GA.skip (i := 11) (fun _ _ _ _ _ h => h) rfl (by kernel_rfl) rfl rfl rfl rfl rfl rfl (#[true, true, true, true, true, true, true, true, true, true, true, true, false, false, false, false, false, false, false, false]) (by kernel_rfl) ?_
      refine GA.skip (i := 12) (fun _ _ _ _ _ h => h) rfl (by kernel_rfl) rfl rfl rfl rfl rfl rfl (#[true, true, true, true, true, true, true, true, true, true, true, true, true, false, false, false, false, false, false, false]) (by kernel_rfl) ?_
      refine GA.skip (i := 13) (fun _ _ _ _ _ h => h) rfl (by kernel_rfl) rfl rfl rfl rfl rfl rfl (#[true, true, true, true, true, true, true, true, true, true, true, true, true, true, false, false, false, false, false, false]) (by kernel_rfl) ?_
      refine GA.skip (i := 14) (fun _ _ _ _ _ h => h) rfl (by kernel_rfl) rfl rfl rfl rfl rfl rfl (#[true, true, true, true, true, true, true, true, true, true, true, true, true, true, true, false, false, false, false, false]) (by kernel_rfl) ?_
      refine GA.skip (i := 15) (fun _ _ _ _ _ h => h) rfl (by kernel_rfl) rfl rfl rfl rfl rfl rfl (#[true, true, true, true, true, true, true, true, true, true, true, true, true, true, true, true, false, false, false, false]) (by kernel_rfl) ?_
      refine GA.skip (i := 16) (fun _ _ _ _ _ h => h) rfl (by kernel_rfl) rfl rfl rfl rfl rfl rfl (#[true, true, true, true, true, true, true, true, true, true, true, true, true, true, true, true, true, false, false, false]) (by kernel_rfl) ?_
      refine GA.skip (i := 17) (fun _ _ _ _ _ h => h) rfl (by kernel_rfl) rfl rfl rfl rfl rfl rfl (#[true, true, true, true, true, true, true, true, true, true, true, true, true, true, true, true, true, true, false, false]) (by kernel_rfl) ?_
      refine GA.skip (i := 18) (fun _ _ _ _ _ h => h) rfl (by kernel_rfl) rfl rfl rfl rfl rfl rfl (#[true, true, true, true, true, true, true, true, true, true, true, true, true, true, true, true, true, true, true, false]) (by kernel_rfl) ?_
      have hs := sift_left hlt (d := e) (f := f) (fun h => hg21 (by omega))
      first | refine GA.pure (i := 19) (fun _ _ _ _ _ h => h) rfl (by kernel_rfl) trivial rfl rfl (Y.pickT rfl rfl rfl) (#[true, true, true, true, true, true, true, true, true, true, true, true, true, true, true, true, true, true, true, true]) (by kernel_rfl) ?_ | refine GA.pure (i := 19) (fun _ _ _ _ _ h => h) rfl (by kernel_rfl) trivial rfl rfl (Y.pickF rfl rfl rfl) (#[true, true, true, true, true, true, true, true, true, true, true, true, true, true, true, true, true, true, true, true]) (by kernel_rfl) ?_
      refine GA.done (by kernel_rfl) ?_
      refine C.condF rfl ?_
      refine C.skip ?_
      refine C.seq ?_
      refine C.seq ?_
      refine C.drawn mixed (_) [] (fun _ h => h) ?_
      refine GA.pure (i := 0) (fun _ _ _ _ _ h => h) rfl (by kernel_rfl) trivial rfl rfl (Y.moveS rfl rfl) (#[true, false, false, false, false, false, false, false, false, false, false, false, false, false]) (by kernel_rfl) ?_
      refine GA.pure (i := 1) (fun _ _ _ _ _ h => h) rfl (by kernel_rfl) trivial rfl rfl (Y.moveI rfl rfl) (#[true, true, false, false, false, false, false, false, false, false, false, false, false, false]) (by kernel_rfl) ?_
      refine GA.pure (i := 2) (fun _ _ _ _ _ h => h) rfl (by kernel_rfl) trivial rfl rfl (Y.moveI rfl rfl) (#[true, true, true, false, false, false, false, false, false, false, false, false, false, false]) (by kernel_rfl) ?_
      refine GA.pure (i := 3) (fun _ _ _ _ _ h => h) rfl (by kernel_rfl) trivial rfl rfl (Y.addN rfl rfl rfl (by omega)) (#[true, true, true, true, false, false, false, false, false, false, false, false, false, false]) (by kernel_rfl) ?_
      refine GA.pure (i := 4) (fun _ _ _ _ _ h => h) rfl (by kernel_rfl) trivial rfl rfl (Y.idxN rfl Try.underlying27 I2 rfl rfl (by omega)) (#[true, true, true, true, true, false, false, false, false, false, false, false, false, false]) (by kernel_rfl) ?_
      refine GA.read (i := 5) (fun _ _ _ _ _ h => h) rfl (by kernel_rfl) (by kernel_rfl) trivial rfl rfl (Y.ldI (by first | exact ha.again _ | exact .next (ha.again _) | exact .next (.next (ha.again _))) rfl Try.underlying2 rfl rfl (by omega)) (#[true, true, true, true, true, true, false, false, false, false, false, false, false, false]) (by kernel_rfl) ?_
      refine GA.pure (i := 6) (fun _ _ _ _ _ h => h) rfl (by kernel_rfl) trivial rfl rfl (Y.moveS rfl rfl) (#[true, true, true, true, true, true, true, false, false, false, false, false, false, false]) (by kernel_rfl) ?_
      refine GA.pure (i := 7) (fun _ _ _ _ _ h => h) rfl (by kernel_rfl) trivial rfl rfl (Y.moveI rfl rfl) (#[true, true, true, true, true, true, true, true, false, false, false, false, false, false]) (by kernel_rfl) ?_
      refine GA.pure (i := 8) (fun _ _ _ _ _ h => h) rfl (by kernel_rfl) trivial rfl rfl (Y.moveI rfl rfl) (#[true, true, true, true, true, true, true, true, true, false, false, false, false, false]) (by kernel_rfl) ?_
      refine GA.pure (i := 9) (fun _ _ _ _ _ h => h) rfl (by kernel_rfl) trivial rfl rfl (Y.addN rfl rfl rfl (by omega)) (#[true, true, true, true, true, true, true, true, true, true, false, false, false, false]) (by kernel_rfl) ?_
      refine GA.pure (i := 10) (fun _ _ _ _ _ h => h) rfl (by kernel_rfl) trivial rfl rfl (Y.idxN rfl Try.underlying27 I2 rfl rfl (by omega)) (#[true, true, true, true, true, true, true, true, true, true, true, false, false, false]) (by kernel_rfl) ?_
      refine GA.read (i := 11) (fun _ _ _ _ _ h => h) rfl (by kernel_rfl) (by kernel_rfl) trivial rfl rfl (Y.ldI (by first | exact ha.again _ | exact .next (ha.again _) | exact .next (.next (ha.again _))) rfl Try.underlying2 rfl rfl (by omega)) (#[true, true, true, true, true, true, true, true, true, true, true, true, false, false]) (by kernel_rfl) ?_
      refine GA.one (i := 12) rfl (by kernel_rfl) (#[true, true, true, true, true, true, true, true, true, true, true, true, true, false]) (by kernel_rfl) ?_
      refine G.call E60 rfl rfl trivial rfl rfl (less_spec W0 _ _ _) rfl ?_
      rintro e L2 ⟨rfl, rfl⟩
      refine G.nil ?_
      refine ⟨fun _ _ h => h, ?_⟩
      first | refine GA.pure (i := 13) (fun _ _ _ _ _ h => h) rfl (by kernel_rfl) trivial rfl rfl (Y.notD rfl rfl) (#[true, true, true, true, true, true, true, true, true, true, true, true, true, true]) (by kernel_rfl) ?_ | refine GA.pure (i := 13) (fun _ _ _ _ _ h => h) rfl (by kernel_rfl) trivial rfl rfl (Y.not rfl rfl) (#[true, true, true, true, true, true, true, true, true, true, true, true, true, true]) (by kernel_rfl) ?_
      refine GA.done (by kernel_rfl) ?_
      refine C.cond _ rfl ?_ ?_
      · intro hc2
        refine C.ret ?_
        -- end c0Fg21Fc2T
        exact ⟨rfl, _, Res.of (rs := []) rfl rfl, by rw [← hre, hs, if_neg hc2], rfl⟩
      · intro hc2
        refine C.skip ?_
        refine C.seq ?_
        refine C.drawn mixed (_) [21, 23] (fun _ h => h) ?_
        refine GA.pure (i := 0) (fun _ _ _ _ _ h => h) rfl (by kernel_rfl) trivial rfl rfl (Y.moveS rfl rfl) (#[true, false, false, false, false, false, false, false, false, false, false, false, false, false, false, false, false, false, false, false, false, false, false, false]) (by kernel_rfl) ?_
        refine GA.pure (i := 1) (fun _ _ _ _ _ h => h) rfl (by kernel_rfl) trivial rfl rfl (Y.moveI rfl rfl) (#[true, true, false, false, false, false, false, false, false, false, false, false, false, false, false, false, false, false, false, false, false, false, false, false]) (by kernel_rfl) ?_
        refine GA.pure (i := 2) (fun _ _ _ _ _ h => h) rfl (by kernel_rfl) trivial rfl rfl (Y.moveI rfl rfl) (#[true, true, true, false, false, false, false, false, false, false, false, false, false, false, false, false, false, false, false, false, false, false, false, false]) (by kernel_rfl) ?_
        refine GA.pure (i := 3) (fun _ _ _ _ _ h => h) rfl (by kernel_rfl) trivial rfl rfl (Y.addN rfl rfl rfl (by omega)) (#[true, true, true, true, false, false, false, false, false, false, false, false, false, false, false, false, false, false, false, false, false, false, false, false]) (by kernel_rfl) ?_
        refine GA.pure (i := 4) (fun _ _ _ _ _ h => h) rfl (by kernel_rfl) trivial rfl rfl (Y.moveS rfl rfl) (#[true, true, true, true, true, false, false, false, false, false, false, false, false, false, false, false, false, false, false, false, false, false, false, false]) (by kernel_rfl) ?_
        refine GA.pure (i := 5) (fun _ _ _ _ _ h => h) rfl (by kernel_rfl) trivial rfl rfl (Y.moveI rfl rfl) (#[true, true, true, true, true, true, false, false, false, false, false, false, false, false, false, false, false, false, false, false, false, false, false, false]) (by kernel_rfl) ?_
        refine GA.pure (i := 6) (fun _ _ _ _ _ h => h) rfl (by kernel_rfl) trivial rfl rfl (Y.moveI rfl rfl) (#[true, true, true, true, true, true, true, false, false, false, false, false, false, false, false, false, false, false, false, false, false, false, false, false]) (by kernel_rfl) ?_
        refine GA.pure (i := 7) (fun _ _ _ _ _ h => h) rfl (by kernel_rfl) trivial rfl rfl (Y.addN rfl rfl rfl (by omega)) (#[true, true, true, true, true, true, true, true, false, false, false, false, false, false, false, false, false, false, false, false, false, false, false, false]) (by kernel_rfl) ?_
        refine GA.pure (i := 8) (fun _ _ _ _ _ h => h) rfl (by kernel_rfl) trivial rfl rfl (Y.moveS rfl rfl) (#[true, true, true, true, true, true, true, true, true, false, false, false, false, false, false, false, false, false, false, false, false, false, false, false]) (by kernel_rfl) ?_
        refine GA.pure (i := 9) (fun _ _ _ _ _ h => h) rfl (by kernel_rfl) trivial rfl rfl (Y.moveI rfl rfl) (#[true, true, true, true, true, true, true, true, true, true, false, false, false, false, false, false, false, false, false, false, false, false, false, false]) (by kernel_rfl) ?_
        refine GA.pure (i := 10) (fun _ _ _ _ _ h => h) rfl (by kernel_rfl) trivial rfl rfl (Y.moveI rfl rfl) (#[true, true, true, true, true, true, true, true, true, true, true, false, false, false, false, false, false, false, false, false, false, false, false, false]) (by kernel_rfl) ?_
        refine GA.pure (i := 11) (fun _ _ _ _ _ h => h) rfl (by kernel_rfl) trivial rfl rfl (Y.addN rfl rfl rfl (by omega)) (#[true, true, true, true, true, true, true, true, true, true, true, true, false, false, false, false, false, false, false, false, false, false, false, false]) (by kernel_rfl) ?_
        refine GA.pure (i := 12) (fun _ _ _ _ _ h => h) rfl (by kernel_rfl) trivial rfl rfl (Y.idxN rfl Try.underlying27 I2 rfl rfl (by omega)) (#[true, true, true, true, true, true, true, true, true, true, true, true, true, false, false, false, false, false, false, false, false, false, false, false]) (by kernel_rfl) ?_
        refine GA.read (i := 13) (fun _ _ _ _ _ h => h) rfl (by kernel_rfl) (by kernel_rfl) trivial rfl rfl (Y.ldI (by first | exact ha.again _ | exact .next (ha.again _) | exact .next (.next (ha.again _))) rfl Try.underlying2 rfl rfl (by omega)) (#[true, true, true, true, true, true, true, true, true, true, true, true, true, true, false, false, false, false, false, false, false, false, false, false]) (by kernel_rfl) ?_
        refine GA.pure (i := 14) (fun _ _ _ _ _ h => h) rfl (by kernel_rfl) trivial rfl rfl (Y.moveS rfl rfl) (#[true, true, true, true, true, true, true, true, true, true, true, true, true, true, true, false, false, false, false, false, false, false, false, false]) (by kernel_rfl) ?_
        refine GA.pure (i := 15) (fun _ _ _ _ _ h => h) rfl (by kernel_rfl) trivial rfl rfl (Y.moveI rfl rfl) (#[true, true, true, true, true, true, true, true, true, true, true, true, true, true, true, true, false, false, false, false, false, false, false, false]) (by kernel_rfl) ?_
        refine GA.pure (i := 16) (fun _ _ _ _ _ h => h) rfl (by kernel_rfl) trivial rfl rfl (Y.moveI rfl rfl) (#[true, true, true, true, true, true, true, true, true, true, true, true, true, true, true, true, true, false, false, false, false, false, false, false]) (by kernel_rfl) ?_
        refine GA.pure (i := 17) (fun _ _ _ _ _ h => h) rfl (by kernel_rfl) trivial rfl rfl (Y.addN rfl rfl rfl (by omega)) (#[true, true, true, true, true, true, true, true, true, true, true, true, true, true, true, true, true, true, false, false, false, false, false, false]) (by kernel_rfl) ?_
        refine GA.pure (i := 18) (fun _ _ _ _ _ h => h) rfl (by kernel_rfl) trivial rfl rfl (Y.idxN rfl Try.underlying27 I2 rfl rfl (by omega)) (#[true, true, true, true, true, true, true, true, true, true, true, true, true, true, true, true, true, true, true, false, false, false, false, false]) (by kernel_rfl) ?_
        refine GA.read (i := 19) (fun _ _ _ _ _ h => h) rfl (by kernel_rfl) (by kernel_rfl) trivial rfl rfl (Y.ldI (by first | exact ha.again _ | exact .next (ha.again _) | exact .next (.next (ha.again _))) rfl Try.underlying2 rfl rfl (by omega)) (#[true, true, true, true, true, true, true, true, true, true, true, true, true, true, true, true, true, true, true, true, false, false, false, false]) (by kernel_rfl) ?_
        refine GA.pure (i := 20) (fun _ _ _ _ _ h => h) rfl (by kernel_rfl) trivial rfl rfl (Y.idxN rfl Try.underlying27 I2 rfl rfl (by omega)) (#[true, true, true, true, true, true, true, true, true, true, true, true, true, true, true, true, true, true, true, true, true, false, false, false]) (by kernel_rfl) ?_
        refine GA.one (i := 21) rfl (by kernel_rfl) (#[true, true, true, true, true, true, true, true, true, true, true, true, true, true, true, true, true, true, true, true, true, true, false, false]) (by kernel_rfl) ?_
        refine G.stI (by first | exact ha.again _ | exact .next (ha.again _) | exact .next (.next (ha.again _))) rfl trivial rfl I2 rfl rfl (by first | omega | (simp only [Array.size_setIfInBounds]; omega)) ?_
        refine G.nil ?_
        refine ⟨fun _ h => absurd h (by simp [hit]), ?_⟩
        refine GA.pure (i := 22) (fun _ _ _ _ _ h => h) rfl (by kernel_rfl) trivial rfl rfl (Y.idxN rfl Try.underlying27 I2 rfl rfl (by omega)) (#[true, true, true, true, true, true, true, true, true, true, true, true, true, true, true, true, true, true, true, true, true, true, true, false]) (by kernel_rfl) ?_
        refine GA.one (i := 23) rfl (by kernel_rfl) (#[true, true, true, true, true, true, true, true, true, true, true, true, true, true, true, true, true, true, true, true, true, true, true, true]) (by kernel_rfl) ?_
        refine G.stI (by first | exact ha.again _ | exact .next (ha.again _) | exact .next (.next (ha.again _))) rfl trivial rfl I2 rfl rfl (by first | omega | (simp only [Array.size_setIfInBounds]; omega)) ?_
        refine G.nil ?_
        refine ⟨fun _ h => absurd h (by simp [hit]), ?_⟩
        refine GA.done (by kernel_rfl) ?_
        refine C.region ?_
        refine G.moveI rfl trivial rfl rfl rfl ?_
        refine G.assignI rfl trivial rfl rfl rfl ?_
        refine G.nil ?_
        refine ⟨hi - (2 * r + 1) + 0, by omega, 2 * r + 1, swp e (f + r) (f + (2 * r + 1)), rfl, by omega, by rw [swp_size]; exact he, ?_, rfl, rfl, rfl, rfl, rfl, rfl⟩
        rw [← hre, hs, if_pos (by omega)]
theorem heap_spec (d : Array Int) (hd : d.size = n) (a b : Nat) (hab : a < b) (hb : b ≤ n) :
    Sorts W0 55 #[.slice (some ⟨bk, 0, none⟩) n cap, .int .i64 a, .int .i64 b] (u bk (.row (ic d rest) te kk)) (u bk (.row (ic (heapSort ltInt d a b) rest) te kk)) := by
  unfold Sorts
  refine FnS.of (args := [.slice (some ⟨bk, 0, none⟩) n cap, .int .i64 (a : Int), .int .i64 (b : Int)]) Try.func55 rfl rfl ?_
  refine C.seq ?_
  refine C.region ?_
  refine G.moveI rfl trivial rfl rfl rfl ?_
  refine G.assignI rfl trivial rfl rfl rfl ?_
  refine G.nil ?_
  refine C.seq ?_
  refine C.region ?_
  refine G.assignI rfl trivial rfl rfl rfl ?_
  refine G.nil ?_
  refine C.seq ?_
  refine C.region ?_
  refine G.moveI rfl trivial rfl rfl rfl ?_
  refine G.moveI rfl trivial rfl rfl rfl ?_
  refine G.subN rfl trivial rfl rfl rfl rfl (by omega) ?_
  refine G.assignI rfl trivial rfl rfl rfl ?_
  refine G.nil ?_
  refine C.seq ?_
  refine C.seq ?_
  refine C.region ?_
  refine G.moveI rfl trivial rfl rfl rfl ?_
  refine G.subN (j := 1) rfl trivial rfl rfl rfl rfl (by omega) ?_
  refine G.quoN (j := 2) rfl trivial rfl rfl rfl rfl (by omega) ?_
  refine G.assignI rfl trivial rfl rfl rfl ?_
  refine G.nil ?_
  refine C.block ?_
  refine C.loop (fun m F D' L' => ∃ (k : Nat) (e : Array Int), m = k + 1 ∧ k ≤ n ∧ e.size = n ∧ heapPop ltInt a (b - a) (heapBuild ltInt (b - a) a k e) = heapSort ltInt d a b ∧ F 0 = .slice (some ⟨bk, 0, none⟩) n cap ∧ F 6 = .int .i64 (a : Int) ∧ F 7 = .int .i64 0 ∧ F 8 = .int .i64 ((b - a : Nat) : Int) ∧ F 9 = .int .i64 ((k : Int) - 1) ∧ D' = [] ∧ u bk (.row (ic e rest) te kk) = L') ⟨_, ⟨(b - a - 1) / 2 + 1, d, rfl, by omega, hd, rfl, rfl, rfl, rfl, rfl, by show Value.int .i64 _ = Value.int .i64 _; congr 1; omega, rfl, rfl⟩⟩ ?_
  rintro m F D' L' ⟨k, e, rfl, hk, he, hke, h0, h6, h7, h8, h9, rfl, rfl⟩
  refine C.fix (d := 0) h0 ?_
  refine C.fix (d := 6) h6 ?_
  refine C.fix (d := 7) h7 ?_
  refine C.fix (d := 8) h8 ?_
  refine C.fix (d := 9) h9 ?_
  refine C.seq ?_
  refine C.seq ?_
  refine C.region ?_
  refine G.moveI rfl trivial rfl rfl rfl ?_
  refine G.bin rfl trivial rfl rfl rfl rfl rfl ?_
  refine G.nil ?_
  refine C.cond _ rfl ?_ ?_
  · intro hc0
    obtain ⟨k, rfl⟩ : ∃ k1, k = k1 + 1 := ⟨k - 1, by omega⟩
    refine C.fix (d := 9) (v := .int .i64 (k : Int)) (by show Value.int .i64 _ = Value.int .i64 _; congr 1; omega) ?_
    refine C.skip ?_
    refine C.seq ?_
    refine C.block ?_
    refine C.region ?_
    refine G.moveS rfl trivial rfl rfl rfl ?_
    refine G.moveI rfl trivial rfl rfl rfl ?_
    refine G.moveI rfl trivial rfl rfl rfl ?_
    refine G.moveI rfl trivial rfl rfl rfl ?_
    refine G.call E67 rfl rfl trivial rfl rfl (sift_spec W0 ha te kk n cap rest hn e he k (b - a) a (by omega) (by omega)) rfl ?_
    rintro e L2 ⟨rfl, rfl⟩
    refine G.nil ?_
    refine C.region ?_
    refine G.moveI rfl trivial rfl rfl rfl ?_
    refine G.sub rfl trivial rfl rfl rfl rfl (by omega) ?_
    refine G.assignI rfl trivial rfl rfl rfl ?_
    refine G.nil ?_
    exact ⟨k + 1, by omega, k, siftDown ltInt (b - a) a k e, rfl, by omega, by rw [sift_size _ _ _ _ _ (Nat.le_refl _)]; exact he, hke, rfl, rfl, rfl, rfl, rfl, rfl, rfl⟩
  · intro hc0
    obtain rfl : k = 0 := by omega
    replace hke : heapPop ltInt a (b - a) e = heapSort ltInt d a b := hke
    refine C.exit ?_
    refine C.seq ?_
    refine C.region ?_
    refine G.moveI rfl trivial rfl rfl rfl ?_
    refine G.subN (j := 1) rfl trivial rfl rfl rfl rfl (by omega) ?_
    refine G.assignI rfl trivial rfl rfl rfl ?_
    refine G.nil ?_
    refine C.block ?_
    refine C.loop (fun m F D' L' => ∃ (k : Nat) (e1 : Array Int), m = k + 1 ∧ k ≤ b - a ∧ e1.size = n ∧ heapPop ltInt a k e1 = heapSort ltInt d a b ∧ F 0 = .slice (some ⟨bk, 0, none⟩) n cap ∧ F 6 = .int .i64 (a : Int) ∧ F 7 = .int .i64 0 ∧ F 10 = .int .i64 ((k : Int) - 1) ∧ D' = [] ∧ u bk (.row (ic e1 rest) te kk) = L') ⟨_, ⟨b - a, e, rfl, by omega, he, hke, rfl, rfl, rfl, by show Value.int .i64 _ = Value.int .i64 _; congr 1; omega, rfl, rfl⟩⟩ ?_
    rintro m F D' L' ⟨k, e1, rfl, hk1, he1, hke1, h0, h6, h7, h10, rfl, rfl⟩
    refine C.fix (d := 0) h0 ?_
    refine C.fix (d := 6) h6 ?_
    refine C.fix (d := 7) h7 ?_
    refine C.fix (d := 10) h10 ?_
    refine C.seq ?_
    refine C.seq ?_
    refine C.region ?_
    refine G.moveI rfl trivial rfl rfl rfl ?_
    refine G.bin rfl trivial rfl rfl rfl rfl rfl ?_
    refine G.nil ?_
    refine C.cond _ rfl ?_ ?_
    · intro hc1
      obtain ⟨k, rfl⟩ : ∃ k1, k = k1 + 1 := ⟨k - 1, by omega⟩
      refine C.fix (d := 10) (v := .int .i64 (k : Int)) (by show Value.int .i64 _ = Value.int .i64 _; congr 1; omega) ?_
      refine C.skip ?_
      refine C.seq ?_
      refine C.block ?_
      refine C.seq ?_
      refine C.drawn mixed (_) [17, 19] (fun _ h => h) ?_
      refine GA.pure (i := 0) (fun _ _ _ _ _ h => h) rfl (by kernel_rfl) trivial rfl rfl (Y.moveS rfl rfl) (#[true, false, false, false, false, false, false, false, false, false, false, false, false, false, false, false, false, false, false, false]) (by kernel_rfl) ?_
      refine GA.pure (i := 1) (fun _ _ _ _ _ h => h) rfl (by kernel_rfl) trivial rfl rfl (Y.moveI rfl rfl) (#[true, true, false, false, false, false, false, false, false, false, false, false, false, false, false, false, false, false, false, false]) (by kernel_rfl) ?_
      refine GA.pure (i := 2) (fun _ _ _ _ _ h => h) rfl (by kernel_rfl) trivial rfl rfl (Y.moveS rfl rfl) (#[true, true, true, false, false, false, false, false, false, false, false, false, false, false, false, false, false, false, false, false]) (by kernel_rfl) ?_
      refine GA.pure (i := 3) (fun _ _ _ _ _ h => h) rfl (by kernel_rfl) trivial rfl rfl (Y.moveI rfl rfl) (#[true, true, true, true, false, false, false, false, false, false, false, false, false, false, false, false, false, false, false, false]) (by kernel_rfl) ?_
      refine GA.pure (i := 4) (fun _ _ _ _ _ h => h) rfl (by kernel_rfl) trivial rfl rfl (Y.moveI rfl rfl) (#[true, true, true, true, true, false, false, false, false, false, false, false, false, false, false, false, false, false, false, false]) (by kernel_rfl) ?_
      refine GA.pure (i := 5) (fun _ _ _ _ _ h => h) rfl (by kernel_rfl) trivial rfl rfl (Y.addN rfl rfl rfl (by omega)) (#[true, true, true, true, true, true, false, false, false, false, false, false, false, false, false, false, false, false, false, false]) (by kernel_rfl) ?_
      refine GA.pure (i := 6) (fun _ _ _ _ _ h => h) rfl (by kernel_rfl) trivial rfl rfl (Y.moveS rfl rfl) (#[true, true, true, true, true, true, true, false, false, false, false, false, false, false, false, false, false, false, false, false]) (by kernel_rfl) ?_
      refine GA.pure (i := 7) (fun _ _ _ _ _ h => h) rfl (by kernel_rfl) trivial rfl rfl (Y.moveI rfl rfl) (#[true, true, true, true, true, true, true, true, false, false, false, false, false, false, false, false, false, false, false, false]) (by kernel_rfl) ?_
      refine GA.pure (i := 8) (fun _ _ _ _ _ h => h) rfl (by kernel_rfl) trivial rfl rfl (Y.moveI rfl rfl) (#[true, true, true, true, true, true, true, true, true, false, false, false, false, false, false, false, false, false, false, false]) (by kernel_rfl) ?_
      refine GA.pure (i := 9) (fun _ _ _ _ _ h => h) rfl (by kernel_rfl) trivial rfl rfl (Y.addN rfl rfl rfl (by omega)) (#[true, true, true, true, true, true, true, true, true, true, false, false, false, false, false, false, false, false, false, false]) (by kernel_rfl) ?_
      refine GA.pure (i := 10) (fun _ _ _ _ _ h => h) rfl (by kernel_rfl) trivial rfl rfl (Y.idxN rfl Try.underlying27 I2 rfl rfl (by omega)) (#[true, true, true, true, true, true, true, true, true, true, true, false, false, false, false, false, false, false, false, false]) (by kernel_rfl) ?_
      refine GA.read (i := 11) (fun _ _ _ _ _ h => h) rfl (by kernel_rfl) (by kernel_rfl) trivial rfl rfl (Y.ldI (by first | exact ha.again _ | exact .next (ha.again _) | exact .next (.next (ha.again _))) rfl Try.underlying2 rfl rfl (by omega)) (#[true, true, true, true, true, true, true, true, true, true, true, true, false, false, false, false, false, false, false, false]) (by kernel_rfl) ?_
      refine GA.pure (i := 12) (fun _ _ _ _ _ h => h) rfl (by kernel_rfl) trivial rfl rfl (Y.moveS rfl rfl) (#[true, true, true, true, true, true, true, true, true, true, true, true, true, false, false, false, false, false, false, false]) (by kernel_rfl) ?_
      refine GA.pure (i := 13) (fun _ _ _ _ _ h => h) rfl (by kernel_rfl) trivial rfl rfl (Y.moveI rfl rfl) (#[true, true, true, true, true, true, true, true, true, true, true, true, true, true, false, false, false, false, false, false]) (by kernel_rfl) ?_
      refine GA.pure (i := 14) (fun _ _ _ _ _ h => h) rfl (by kernel_rfl) trivial rfl rfl (Y.idxN rfl Try.underlying27 I2 rfl rfl (by omega)) (#[true, true, true, true, true, true, true, true, true, true, true, true, true, true, true, false, false, false, false, false]) (by kernel_rfl) ?_
      refine GA.read (i := 15) (fun _ _ _ _ _ h => h) rfl (by kernel_rfl) (by kernel_rfl) trivial rfl rfl (Y.ldI (by first | exact ha.again _ | exact .next (ha.again _) | exact .next (.next (ha.again _))) rfl Try.underlying2 rfl rfl (by omega)) (#[true, true, true, true, true, true, true, true, true, true, true, true, true, true, true, true, false, false, false, false]) (by kernel_rfl) ?_
      refine GA.pure (i := 16) (fun _ _ _ _ _ h => h) rfl (by kernel_rfl) trivial rfl rfl (Y.idxN rfl Try.underlying27 I2 rfl rfl (by omega)) (#[true, true, true, true, true, true, true, true, true, true, true, true, true, true, true, true, true, false, false, false]) (by kernel_rfl) ?_
      refine GA.one (i := 17) rfl (by kernel_rfl) (#[true, true, true, true, true, true, true, true, true, true, true, true, true, true, true, true, true, true, false, false]) (by kernel_rfl) ?_
      refine G.stI (by first | exact ha.again _ | exact .next (ha.again _) | exact .next (.next (ha.again _))) rfl trivial rfl I2 rfl rfl (by first | omega | (simp only [Array.size_setIfInBounds]; omega)) ?_
      refine G.nil ?_
      refine ⟨fun _ h => absurd h (by simp [hit]), ?_⟩
      refine GA.pure (i := 18) (fun _ _ _ _ _ h => h) rfl (by kernel_rfl) trivial rfl rfl (Y.idxN rfl Try.underlying27 I2 rfl rfl (by omega)) (#[true, true, true, true, true, true, true, true, true, true, true, true, true, true, true, true, true, true, true, false]) (by kernel_rfl) ?_
      refine GA.one (i := 19) rfl (by kernel_rfl) (#[true, true, true, true, true, true, true, true, true, true, true, true, true, true, true, true, true, true, true, true]) (by kernel_rfl) ?_
      refine G.stI (by first | exact ha.again _ | exact .next (ha.again _) | exact .next (.next (ha.again _))) rfl trivial rfl I2 rfl rfl (by first | omega | (simp only [Array.size_setIfInBounds]; omega)) ?_
      refine G.nil ?_
      refine ⟨fun _ h => absurd h (by simp [hit]), ?_⟩
      refine GA.done (by kernel_rfl) ?_
      refine C.region ?_
      refine G.moveS rfl trivial rfl rfl rfl ?_
      refine G.moveI rfl trivial rfl rfl rfl ?_
      refine G.moveI rfl trivial rfl rfl rfl ?_
      refine G.moveI rfl trivial rfl rfl rfl ?_
      refine G.call E67 rfl rfl trivial rfl rfl (sift_spec W0 ha te kk n cap rest hn (swp e1 a (a + k)) (by rw [swp_size]; exact he1) 0 k a (by omega) (by omega)) rfl ?_
      rintro e L2 ⟨rfl, rfl⟩
      refine G.nil ?_
      refine C.region ?_
      refine G.moveI rfl trivial rfl rfl rfl ?_
      refine G.sub rfl trivial rfl rfl rfl rfl (by omega) ?_
      refine G.assignI rfl trivial rfl rfl rfl ?_
      refine G.nil ?_
      exact ⟨k + 1, by omega, k, siftDown ltInt k a 0 (swp e1 a (a + k)), rfl, by omega, by rw [sift_size _ _ _ _ _ (Nat.le_refl _), swp_size]; exact he1, hke1, rfl, rfl, rfl, rfl, rfl, rfl⟩
    · intro hc1
      refine C.exit ?_
      -- end c0Fc1F
      obtain rfl : k = 0 := by omega
      exact ⟨rfl, _, Res.of (rs := []) rfl rfl, by rw [← hke1]; rfl, rfl⟩
theorem break_spec (d : Array Int) (hd : d.size = n) (a b : Nat) (hab : a < b) (hb : b ≤ n) :
    FnS Try.prog W0 56 #[.slice (some ⟨bk, 0, none⟩) n cap, .int .i64 a, .int .i64 b] (u bk (.row (ic d rest) te kk))
      (fun e L' => ∃ d' : Array Int, PermIn a b d d' ∧ L' = u bk (.row (ic d' rest) te kk) ∧ e = .returned (.tuple #[])) := by
  refine FnS.of (args := [.slice (some ⟨bk, 0, none⟩) n cap, .int .i64 (a : Int), .int .i64 (b : Int)]) Try.func56 rfl rfl ?_
  refine C.seq ?_
  refine C.region ?_
  refine G.moveI rfl trivial rfl rfl rfl ?_
  refine G.moveI rfl trivial rfl rfl rfl ?_
  refine G.subN rfl trivial rfl rfl rfl rfl (by omega) ?_
  refine G.assignI rfl trivial rfl rfl rfl ?_
  refine G.nil ?_
  refine C.seq ?_
  refine C.region ?_
  refine G.moveI rfl trivial rfl rfl rfl ?_
  refine G.bin rfl trivial rfl rfl rfl rfl rfl ?_
  refine G.nil ?_
  refine C.cond _ rfl ?_ ?_
  · intro hc0
    refine C.seq ?_
    refine C.region ?_
    refine G.moveI rfl trivial rfl rfl rfl ?_
    refine G.convInt rfl trivial rfl rfl Try.underlying3 Try.underlying108 rfl ?_
    refine G.fix (d := 17) (v := .int .u64 ((b - a : Nat) : Int)) (by show Value.int .u64 (IntKind.u64.wrap _) = _; rw [wrap_u64 (by omega)]) ?_
    refine G.allocC (cs := [(.int .u64 0)]) rfl trivial rfl rfl I108 rfl ?_
    intro b7
    refine G.store (v := .int _ _) (by first | exact .here | exact .next .here | exact .next (.next .here) | exact .next (.next (.next .here)) | exact .next (.next (.next (.next .here))) | exact .next (.next (.next (.next (.next .here)))) | exact .next (.next (.next (.next (.next (.next .here))))) | exact .next (.next (.next (.next (.next (.next (.next .here)))))) | exact .in1 | exact .next .in1 | exact .next (.next .in1) | exact .next (.next (.next .in1)) | exact .next (.next (.next (.next .in1))) | exact .in2 | exact .next .in2 | exact .next (.next .in2) | exact .next (.next (.next .in2)) | exact .next (.next (.next (.next .in2))) | exact .app .here | exact .app (.next .here) | exact .app (.next (.next .here)) | exact .app (.next (.next (.next .here))) | exact .app (.next (.next (.next (.next .here)))) | exact .app (.next (.next (.next (.next (.next .here))))) | exact .app (.next (.next (.next (.next (.next (.next .here)))))) | exact .app (.next (.next (.next (.next (.next (.next (.next .here))))))) | exact .app .in1 | exact .app .in2 | exact .app (.next .in1) | exact .next (.app .in1) | exact .next (.next (.app .in1)) | exact .next (.app .here) | exact .next (.next (.app .here)) | exact .next (.next (.next (.app .here))) | exact .next (.next (.next (.next (.app .here))))) rfl trivial rfl I108 rfl rfl rfl (by first | decide | (simp; done) | (simp; omega)) _ (by first | (simp only [List.set_cons_succ, List.set_cons_zero]; done) | (simp only [List.set_cons_succ, List.set_cons_zero]; exact rfl) | exact rfl) ?_
    refine G.nil ?_
    refine C.seq ?_
    refine C.region ?_
    refine G.moveI rfl trivial rfl rfl rfl ?_
    refine G.call E68 rfl rfl trivial rfl rfl (power_spec W0 _ (b - a) (by omega) (by omega)) rfl ?_
    rintro e L2 ⟨p, hp1, hp2, rfl, rfl⟩
    refine G.assignI rfl trivial rfl rfl rfl ?_
    refine G.nil ?_
    refine C.seq ?_
    refine C.region ?_
    refine G.moveI rfl trivial rfl rfl rfl ?_
    refine G.moveI rfl trivial rfl rfl rfl ?_
    refine G.quoN (j := 4) rfl trivial rfl rfl rfl rfl (by omega) ?_
    refine G.mulN (j := 2) rfl trivial rfl rfl rfl rfl (by omega) ?_
    refine G.addN rfl trivial rfl rfl rfl rfl (by omega) ?_
    refine G.subN (j := 1) rfl trivial rfl rfl rfl rfl (by omega) ?_
    refine G.assignI rfl trivial rfl rfl rfl ?_
    refine G.nil ?_
    refine C.block ?_
    refine C.loop (fun m F D' L' => ∃ (i r : Nat) (e : Array Int), m = a + (b - a) / 4 * 2 + 2 - i + 0 ∧ a + (b - a) / 4 * 2 - 1 ≤ i ∧ i ≤ a + (b - a) / 4 * 2 + 2 ∧ e.size = n ∧ PermIn a b d e ∧ F 0 = .slice (some ⟨bk, 0, none⟩) n cap ∧ F 1 = .int .i64 (a : Int) ∧ F 6 = .int .i64 ((b - a : Nat) : Int) ∧ F 7 = .pointer (some ⟨b7, 0, none⟩) ∧ F 8 = .int .u64 (p : Int) ∧ F 9 = .int .i64 (i : Int) ∧ D' = [] ∧ [(b7, .row [.int .u64 (r : Int)] 108 1)] :: u bk (.row (ic e rest) te kk) = L') ⟨_, ⟨a + (b - a) / 4 * 2 - 1, b - a, d, rfl, by omega, by omega, hd, permIn_refl _ _ _, rfl, rfl, rfl, rfl, rfl, rfl, rfl, rfl⟩⟩ ?_
    rintro m F D' L' ⟨i, r, e, rfl, hi1, hi2, he, hpe, h0, h1, h6, h7, h8, h9, rfl, rfl⟩
    refine C.fix (d := 0) h0 ?_
    refine C.fix (d := 1) h1 ?_
    refine C.fix (d := 6) h6 ?_
    refine C.fix (d := 7) h7 ?_
    refine C.fix (d := 8) h8 ?_
    refine C.fix (d := 9) h9 ?_
    refine C.seq ?_
    refine C.seq ?_
    refine C.region ?_
    refine G.moveI rfl trivial rfl rfl rfl ?_
    refine G.moveI rfl trivial rfl rfl rfl ?_
    refine G.moveI rfl trivial rfl rfl rfl ?_
    refine G.quoN (j := 4) rfl trivial rfl rfl rfl rfl (by omega) ?_
    refine G.mulN (j := 2) rfl trivial rfl rfl rfl rfl (by omega) ?_
    refine G.addN rfl trivial rfl rfl rfl rfl (by omega) ?_
    refine G.addN (j := 1) rfl trivial rfl rfl rfl rfl (by omega) ?_
    refine G.bin rfl trivial rfl rfl rfl rfl rfl ?_
    refine G.nil ?_
    refine C.cond _ rfl ?_ ?_
    · intro hc1
      have hlt : i ≤ a + (b - a) / 4 * 2 + 1 := by omega
      refine C.skip ?_
      refine C.seq ?_
      refine C.block ?_
      refine C.seq ?_
      refine C.region ?_
      refine G.call E69 rfl rfl trivial rfl rfl (next_spec W0 _ b7 r) rfl ?_
      rintro e L2 ⟨r1, hr1, rfl, rfl⟩
      refine G.moveI rfl trivial rfl rfl rfl ?_
      refine G.bin rfl trivial rfl rfl rfl rfl rfl ?_
      refine G.fix (d := 38) (v := .int .u64 ((p - 1 : Nat) : Int)) (by show Value.int .u64 (IntKind.u64.wrap ((p : Int) - 1)) = _; rw [show (p : Int) - 1 = ((p - 1 : Nat) : Int) by omega, wrap_u64 (by omega)]) ?_
      refine G.bin rfl trivial rfl rfl rfl rfl rfl ?_
      obtain ⟨o, ho, hop⟩ := and_u64 (r := r1) (q := p - 1) (by omega)
      refine G.fix (d := 39) (v := .int .u64 (o : Int)) ho ?_
      refine G.convInt rfl trivial rfl rfl Try.underlying73 Try.underlying3 rfl ?_
      refine G.fix (d := 40) (v := .int .i64 (o : Int)) (by show Value.int .i64 (IntKind.i64.wrap (o : Int)) = _; rw [wrap_i64 (by omega)]) ?_
      refine G.assignI rfl trivial rfl rfl rfl ?_
      refine G.nil ?_
      refine C.seq ?_
      refine C.seq ?_
      refine C.region ?_
      refine G.moveI rfl trivial rfl rfl rfl ?_
      refine G.moveI rfl trivial rfl rfl rfl ?_
      refine G.bin rfl trivial rfl rfl rfl rfl rfl ?_
      refine G.nil ?_
      refine C.cond _ rfl ?_ ?_
      · intro hc2
        have hob : a + (o - (b - a)) < b := by omega
        refine C.region ?_
        refine G.moveI rfl trivial rfl rfl rfl ?_
        refine G.moveI rfl trivial rfl rfl rfl ?_
        refine G.subN rfl trivial rfl rfl rfl rfl (by omega) ?_
        refine G.assignI rfl trivial rfl rfl rfl ?_
        refine G.nil ?_
        refine C.drawn mixed (_) [17, 19] (fun _ h => h) ?_
        refine GA.pure (i := 0) (fun _ _ _ _ _ h => h) rfl (by kernel_rfl) trivial rfl rfl (Y.moveS rfl rfl) (#[true, false, false, false, false, false, false, false, false, false, false, false, false, false, false, false, false, false, false, false]) (by kernel_rfl) ?_
        refine GA.pure (i := 1) (fun _ _ _ _ _ h => h) rfl (by kernel_rfl) trivial rfl rfl (Y.moveI rfl rfl) (#[true, true, false, false, false, false, false, false, false, false, false, false, false, false, false, false, false, false, false, false]) (by kernel_rfl) ?_
        refine GA.pure (i := 2) (fun _ _ _ _ _ h => h) rfl (by kernel_rfl) trivial rfl rfl (Y.moveS rfl rfl) (#[true, true, true, false, false, false, false, false, false, false, false, false, false, false, false, false, false, false, false, false]) (by kernel_rfl) ?_
        refine GA.pure (i := 3) (fun _ _ _ _ _ h => h) rfl (by kernel_rfl) trivial rfl rfl (Y.moveI rfl rfl) (#[true, true, true, true, false, false, false, false, false, false, false, false, false, false, false, false, false, false, false, false]) (by kernel_rfl) ?_
        refine GA.pure (i := 4) (fun _ _ _ _ _ h => h) rfl (by kernel_rfl) trivial rfl rfl (Y.moveI rfl rfl) (#[true, true, true, true, true, false, false, false, false, false, false, false, false, false, false, false, false, false, false, false]) (by kernel_rfl) ?_
        refine GA.pure (i := 5) (fun _ _ _ _ _ h => h) rfl (by kernel_rfl) trivial rfl rfl (Y.addN rfl rfl rfl (by omega)) (#[true, true, true, true, true, true, false, false, false, false, false, false, false, false, false, false, false, false, false, false]) (by kernel_rfl) ?_
        refine GA.pure (i := 6) (fun _ _ _ _ _ h => h) rfl (by kernel_rfl) trivial rfl rfl (Y.moveS rfl rfl) (#[true, true, true, true, true, true, true, false, false, false, false, false, false, false, false, false, false, false, false, false]) (by kernel_rfl) ?_
        refine GA.pure (i := 7) (fun _ _ _ _ _ h => h) rfl (by kernel_rfl) trivial rfl rfl (Y.moveI rfl rfl) (#[true, true, true, true, true, true, true, true, false, false, false, false, false, false, false, false, false, false, false, false]) (by kernel_rfl) ?_
        refine GA.pure (i := 8) (fun _ _ _ _ _ h => h) rfl (by kernel_rfl) trivial rfl rfl (Y.moveI rfl rfl) (#[true, true, true, true, true, true, true, true, true, false, false, false, false, false, false, false, false, false, false, false]) (by kernel_rfl) ?_
        refine GA.pure (i := 9) (fun _ _ _ _ _ h => h) rfl (by kernel_rfl) trivial rfl rfl (Y.addN rfl rfl rfl (by omega)) (#[true, true, true, true, true, true, true, true, true, true, false, false, false, false, false, false, false, false, false, false]) (by kernel_rfl) ?_
        refine GA.pure (i := 10) (fun _ _ _ _ _ h => h) rfl (by kernel_rfl) trivial rfl rfl (Y.idxN rfl Try.underlying27 I2 rfl rfl (by omega)) (#[true, true, true, true, true, true, true, true, true, true, true, false, false, false, false, false, false, false, false, false]) (by kernel_rfl) ?_
        refine GA.read (i := 11) (fun _ _ _ _ _ h => h) rfl (by kernel_rfl) (by kernel_rfl) trivial rfl rfl (Y.ldI (by first | exact ha.again _ | exact .next (ha.again _) | exact .next (.next (ha.again _))) rfl Try.underlying2 rfl rfl (by omega)) (#[true, true, true, true, true, true, true, true, true, true, true, true, false, false, false, false, false, false, false, false]) (by kernel_rfl) ?_
        refine GA.pure (i := 12) (fun _ _ _ _ _ h => h) rfl (by kernel_rfl) trivial rfl rfl (Y.moveS rfl rfl) (#[true, true, true, true, true, true, true, true, true, true, true, true, true, false, false, false, false, false, false, false]) (by kernel_rfl) ?_
        refine GA.pure (i := 13) (fun _ _ _ _ _ h => h) rfl (by kernel_rfl) trivial rfl rfl (Y.moveI rfl rfl) (#[true, true, true, true, true, true, true, true, true, true, true, true, true, true, false, false, false, false, false, false]) (by kernel_rfl) ?_
        refine GA.pure (i := 14) (fun _ _ _ _ _ h => h) rfl (by kernel_rfl) trivial rfl rfl (Y.idxN rfl Try.underlying27 I2 rfl rfl (by omega)) (#[true, true, true, true, true, true, true, true, true, true, true, true, true, true, true, false, false, false, false, false]) (by kernel_rfl) ?_
        refine GA.read (i := 15) (fun _ _ _ _ _ h => h) rfl (by kernel_rfl) (by kernel_rfl) trivial rfl rfl (Y.ldI (by first | exact ha.again _ | exact .next (ha.again _) | exact .next (.next (ha.again _))) rfl Try.underlying2 rfl rfl (by omega)) (#[true, true, true, true, true, true, true, true, true, true, true, true, true, true, true, true, false, false, false, false]) (by kernel_rfl) ?_
        refine GA.pure (i := 16) (fun _ _ _ _ _ h => h) rfl (by kernel_rfl) trivial rfl rfl (Y.idxN rfl Try.underlying27 I2 rfl rfl (by omega)) (#[true, true, true, true, true, true, true, true, true, true, true, true, true, true, true, true, true, false, false, false]) (by kernel_rfl) ?_
        refine GA.one (i := 17) rfl (by kernel_rfl) (#[true, true, true, true, true, true, true, true, true, true, true, true, true, true, true, true, true, true, false, false]) (by kernel_rfl) ?_
        refine G.stI (by first | exact ha.again _ | exact .next (ha.again _) | exact .next (.next (ha.again _))) rfl trivial rfl I2 rfl rfl (by first | omega | (simp only [Array.size_setIfInBounds]; omega)) ?_
        refine G.nil ?_
        refine ⟨fun _ h => absurd h (by simp [hit]), ?_⟩
        refine GA.pure (i := 18) (fun _ _ _ _ _ h => h) rfl (by kernel_rfl) trivial rfl rfl (Y.idxN rfl Try.underlying27 I2 rfl rfl (by omega)) (#[true, true, true, true, true, true, true, true, true, true, true, true, true, true, true, true, true, true, true, false]) (by kernel_rfl) ?_
        refine GA.one (i := 19) rfl (by kernel_rfl) (#[true, true, true, true, true, true, true, true, true, true, true, true, true, true, true, true, true, true, true, true]) (by kernel_rfl) ?_
        refine G.stI (by first | exact ha.again _ | exact .next (ha.again _) | exact .next (.next (ha.again _))) rfl trivial rfl I2 rfl rfl (by first | omega | (simp only [Array.size_setIfInBounds]; omega)) ?_
        refine G.nil ?_
        refine ⟨fun _ h => absurd h (by simp [hit]), ?_⟩
        refine GA.done (by kernel_rfl) ?_
        refine C.region ?_
        refine G.moveI rfl trivial rfl rfl rfl ?_
        refine G.addN (j := 1) rfl trivial rfl rfl rfl rfl (by omega) ?_
        refine G.assignI rfl trivial rfl rfl rfl ?_
        refine G.nil ?_
        refine ⟨a + (b - a) / 4 * 2 + 2 - (i + 1) + 0, by omega, i + 1, r1, swp e i (a + (o - (b - a))), rfl, by omega, by omega, by rw [swp_size]; exact he, permIn_trans _ _ _ _ _ hpe (swp_permIn e a b i (a + (o - (b - a))) (by omega) (by omega) (by omega) hob (by omega)), rfl, rfl, rfl, rfl, rfl, rfl, rfl, rfl⟩
      · intro hc2
        have hob : a + o < b := by omega
        refine C.skip ?_
        refine C.drawn mixed (_) [17, 19] (fun _ h => h) ?_
        refine GA.pure (i := 0) (fun _ _ _ _ _ h => h) rfl (by kernel_rfl) trivial rfl rfl (Y.moveS rfl rfl) (#[true, false, false, false, false, false, false, false, false, false, false, false, false, false, false, false, false, false, false, false]) (by kernel_rfl) ?_
        refine GA.pure (i := 1) (fun _ _ _ _ _ h => h) rfl (by kernel_rfl) trivial rfl rfl (Y.moveI rfl rfl) (#[true, true, false, false, false, false, false, false, false, false, false, false, false, false, false, false, false, false, false, false]) (by kernel_rfl) ?_
        refine GA.pure (i := 2) (fun _ _ _ _ _ h => h) rfl (by kernel_rfl) trivial rfl rfl (Y.moveS rfl rfl) (#[true, true, true, false, false, false, false, false, false, false, false, false, false, false, false, false, false, false, false, false]) (by kernel_rfl) ?_
        refine GA.pure (i := 3) (fun _ _ _ _ _ h => h) rfl (by kernel_rfl) trivial rfl rfl (Y.moveI rfl rfl) (#[true, true, true, true, false, false, false, false, false, false, false, false, false, false, false, false, false, false, false, false]) (by kernel_rfl) ?_
        refine GA.pure (i := 4) (fun _ _ _ _ _ h => h) rfl (by kernel_rfl) trivial rfl rfl (Y.moveI rfl rfl) (#[true, true, true, true, true, false, false, false, false, false, false, false, false, false, false, false, false, false, false, false]) (by kernel_rfl) ?_
        refine GA.pure (i := 5) (fun _ _ _ _ _ h => h) rfl (by kernel_rfl) trivial rfl rfl (Y.addN rfl rfl rfl (by omega)) (#[true, true, true, true, true, true, false, false, false, false, false, false, false, false, false, false, false, false, false, false]) (by kernel_rfl) ?_
        refine GA.pure (i := 6) (fun _ _ _ _ _ h => h) rfl (by kernel_rfl) trivial rfl rfl (Y.moveS rfl rfl) (#[true, true, true, true, true, true, true, false, false, false, false, false, false, false, false, false, false, false, false, false]) (by kernel_rfl) ?_
        refine GA.pure (i := 7) (fun _ _ _ _ _ h => h) rfl (by kernel_rfl) trivial rfl rfl (Y.moveI rfl rfl) (#[true, true, true, true, true, true, true, true, false, false, false, false, false, false, false, false, false, false, false, false]) (by kernel_rfl) ?_
        refine GA.pure (i := 8) (fun _ _ _ _ _ h => h) rfl (by kernel_rfl) trivial rfl rfl (Y.moveI rfl rfl) (#[true, true, true, true, true, true, true, true, true, false, false, false, false, false, false, false, false, false, false, false]) (by kernel_rfl) ?_
        refine GA.pure (i := 9) (fun _ _ _ _ _ h => h) rfl (by kernel_rfl) trivial rfl rfl (Y.addN rfl rfl rfl (by omega)) (#[true, true, true, true, true, true, true, true, true, true, false, false, false, false, false, false, false, false, false, false]) (by kernel_rfl) ?_
        refine GA.pure (i := 10) (fun _ _ _ _ _ h => h) rfl (by kernel_rfl) trivial rfl rfl (Y.idxN rfl Try.underlying27 I2 rfl rfl (by omega)) (#[true, true, true, true, true, true, true, true, true, true, true, false, false, false, false, false, false, false, false, false]) (by kernel_rfl) ?_
        refine GA.read (i := 11) (fun _ _ _ _ _ h => h) rfl (by kernel_rfl) (by kernel_rfl) trivial rfl rfl (Y.ldI (by first | exact ha.again _ | exact .next (ha.again _) | exact .next (.next (ha.again _))) rfl Try.underlying2 rfl rfl (by omega)) (#[true, true, true, true, true, true, true, true, true, true, true, true, false, false, false, false, false, false, false, false]) (by kernel_rfl) ?_
        refine GA.pure (i := 12) (fun _ _ _ _ _ h => h) rfl (by kernel_rfl) trivial rfl rfl (Y.moveS rfl rfl) (#[true, true, true, true, true, true, true, true, true, true, true, true, true, false, false, false, false, false, false, false]) (by kernel_rfl) ?_
        refine GA.pure (i := 13) (fun _ _ _ _ _ h => h) rfl (by kernel_rfl) trivial rfl rfl (Y.moveI rfl rfl) (#[true, true, true, true, true, true, true, true, true, true, true, true, true, true, false, false, false, false, false, false]) (by kernel_rfl) ?_
        refine GA.pure (i := 14) (fun _ _ _ _ _ h => h) rfl (by kernel_rfl) trivial rfl rfl (Y.idxN rfl Try.underlying27 I2 rfl rfl (by omega)) (#[true, true, true, true, true, true, true, true, true, true, true, true, true, true, true, false, false, false, false, false]) (by kernel_rfl) ?_
        refine GA.read (i := 15) (fun _ _ _ _ _ h => h) rfl (by kernel_rfl) (by kernel_rfl) trivial rfl rfl (Y.ldI (by first | exact ha.again _ | exact .next (ha.again _) | exact .next (.next (ha.again _))) rfl Try.underlying2 rfl rfl (by omega)) (#[true, true, true, true, true, true, true, true, true, true, true, true, true, true, true, true, false, false, false, false]) (by kernel_rfl) ?_
        refine GA.pure (i := 16) (fun _ _ _ _ _ h => h) rfl (by kernel_rfl) trivial rfl rfl (Y.idxN rfl Try.underlying27 I2 rfl rfl (by omega)) (#[true, true, true, true, true, true, true, true, true, true, true, true, true, true, true, true, true, false, false, false]) (by kernel_rfl) ?_
        refine GA.one (i := 17) rfl (by kernel_rfl) (#[true, true, true, true, true, true, true, true, true, true, true, true, true, true, true, true, true, true, false, false]) (by kernel_rfl) ?_
        refine G.stI (by first | exact ha.again _ | exact .next (ha.again _) | exact .next (.next (ha.again _))) rfl trivial rfl I2 rfl rfl (by first | omega | (simp only [Array.size_setIfInBounds]; omega)) ?_
        refine G.nil ?_
        refine ⟨fun _ h => absurd h (by simp [hit]), ?_⟩
        refine GA.pure (i := 18) (fun _ _ _ _ _ h => h) rfl (by kernel_rfl) trivial rfl rfl (Y.idxN rfl Try.underlying27 I2 rfl rfl (by omega)) (#[true, true, true, true, true, true, true, true, true, true, true, true, true, true, true, true, true, true, true, false]) (by kernel_rfl) ?_
        refine GA.one (i := 19) rfl (by kernel_rfl) (#[true, true, true, true, true, true, true, true, true, true, true, true, true, true, true, true, true, true, true, true]) (by kernel_rfl) ?_
        refine G.stI (by first | exact ha.again _ | exact .next (ha.again _) | exact .next (.next (ha.again _))) rfl trivial rfl I2 rfl rfl (by first | omega | (simp only [Array.size_setIfInBounds]; omega)) ?_
        refine G.nil ?_
        refine ⟨fun _ h => absurd h (by simp [hit]), ?_⟩
        refine GA.done (by kernel_rfl) ?_
        refine C.region ?_
        refine G.moveI rfl trivial rfl rfl rfl ?_
        refine G.addN (j := 1) rfl trivial rfl rfl rfl rfl (by omega) ?_
        refine G.assignI rfl trivial rfl rfl rfl ?_
        refine G.nil ?_
        refine ⟨a + (b - a) / 4 * 2 + 2 - (i + 1) + 0, by omega, i + 1, r1, swp e i (a + o), rfl, by omega, by omega, by rw [swp_size]; exact he, permIn_trans _ _ _ _ _ hpe (swp_permIn e a b i (a + o) (by omega) (by omega) (by omega) hob (by omega)), rfl, rfl, rfl, rfl, rfl, rfl, rfl, rfl⟩
    · intro hc1
      refine C.less (fun _ h => h.tail) ?_
      refine C.exit ?_
      -- end c0Tc1F
      exact ⟨rfl, _, Res.of (rs := []) rfl rfl, e, hpe, rfl, rfl⟩
  · intro hc0
    refine C.skip ?_
    -- end c0F
    exact ⟨rfl, _, Res.of (rs := []) rfl rfl, d, permIn_refl _ _ _, rfl, rfl⟩
end sort
end Go.Proofs.Ytomiidlbfcfpiaa
