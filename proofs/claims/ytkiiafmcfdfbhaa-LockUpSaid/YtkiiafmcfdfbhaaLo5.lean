/-
  Locks: LockUp walked.
-/
import Derived.Test.YtkiiafmcfdfbhaaLo4
namespace Go.Proofs.Ytkiiafmcfdfbhaa
open Go Go.SL Go.RowKit Go.Sort
theorem upR_length (n : Nat) : (upR n).length = n := by simp [upR]
theorem upR_at {n i : Nat} (h : i < n) : ((upR n).map (Value.int .i64))[i]? = some (.int .i64 ((i : Int) + 2)) := by simp [upR, h]
section laws
variable (W0 : World)
theorem up_out (n : Int) (k : ByteArray) (h : ¬ (1 ≤ n ∧ n ≤ 10 ∧ k.size ≤ 16)) : FnS Try.prog W0 8 #[.int .i64 n, .string k] [] (fun e _ => e = .returned (.bool true)) := by
  refine FnS.of (args := [.int .i64 n, .string k]) Try.func8 rfl rfl ?_
  refine C.seq ?_
  refine C.region ?_
  refine G.assignB rfl trivial rfl rfl rfl ?_
  refine G.nil ?_
  refine C.seq ?_
  refine C.region ?_
  refine G.call E9 rfl rfl trivial rfl rfl (begun_spec W0 _) rfl ?_
  rintro e L2 ⟨rfl, rfl⟩
  refine G.assignB rfl trivial rfl rfl rfl ?_
  refine G.nil ?_
  refine C.seq ?_
  refine C.seq ?_
  refine C.region ?_
  refine G.moveB rfl trivial rfl rfl rfl ?_
  first | refine G.notD rfl trivial rfl rfl rfl ?_ | refine G.not rfl trivial rfl rfl rfl ?_
  refine G.nil ?_
  refine C.condF rfl ?_
  refine C.skip ?_
  refine C.seq ?_
  refine C.seq ?_
  refine C.region ?_
  refine G.moveI rfl trivial rfl rfl rfl ?_
  refine G.bin rfl trivial rfl rfl rfl rfl rfl ?_
  refine G.moveB rfl trivial rfl rfl rfl ?_
  refine G.fork (t := 18) _ rfl ?_ ?_
  · intro hg18
    refine G.skip rfl rfl rfl rfl rfl rfl ?_
    refine G.skip rfl rfl rfl rfl rfl rfl ?_
    first | refine G.pickT rfl trivial rfl rfl rfl rfl ?_ | refine G.pickF rfl trivial rfl rfl rfl rfl ?_
    refine G.moveB rfl trivial rfl rfl rfl ?_
    refine G.skip rfl rfl rfl rfl rfl rfl ?_
    refine G.skip rfl rfl rfl rfl rfl rfl ?_
    refine G.skip rfl rfl rfl rfl rfl rfl ?_
    first | refine G.pickT rfl trivial rfl rfl rfl rfl ?_ | refine G.pickF rfl trivial rfl rfl rfl rfl ?_
    refine G.nil ?_
    refine C.condT rfl ?_
    refine C.seq ?_
    refine C.region ?_
    refine G.assignB rfl trivial rfl rfl rfl ?_
    refine G.nil ?_
    refine C.ret ?_
    -- end g18T
    exact ⟨rfl, _, Res.of (rs := [.tmp 4]) rfl rfl, rfl⟩
  · intro hg18
    refine G.moveI rfl ⟨_, rfl, rfl, rfl⟩ rfl rfl rfl ?_
    refine G.bin rfl ⟨_, rfl, rfl, rfl⟩ rfl rfl rfl rfl rfl ?_
    first | refine G.pickT rfl trivial rfl rfl rfl rfl ?_ | refine G.pickF rfl trivial rfl rfl rfl rfl ?_
    refine G.moveB rfl trivial rfl rfl rfl ?_
    refine G.fork (t := 22) _ rfl ?_ ?_
    · intro hg22
      refine G.skip rfl rfl rfl rfl rfl rfl ?_
      refine G.skip rfl rfl rfl rfl rfl rfl ?_
      refine G.skip rfl rfl rfl rfl rfl rfl ?_
      first | refine G.pickT rfl trivial rfl rfl rfl rfl ?_ | refine G.pickF rfl trivial rfl rfl rfl rfl ?_
      refine G.nil ?_
      refine C.condT rfl ?_
      refine C.seq ?_
      refine C.region ?_
      refine G.assignB rfl trivial rfl rfl rfl ?_
      refine G.nil ?_
      refine C.ret ?_
      -- end g18Fg22T
      exact ⟨rfl, _, Res.of (rs := [.tmp 4]) rfl rfl, rfl⟩
    · intro hg22
      refine G.moveT rfl ⟨_, rfl, rfl, rfl⟩ rfl rfl rfl ?_
      refine G.lenStr rfl ⟨_, rfl, rfl, rfl⟩ rfl rfl Try.underlying9 rfl ?_
      refine G.bin rfl ⟨_, rfl, rfl, rfl⟩ rfl rfl rfl rfl rfl ?_
      first | refine G.pickT rfl trivial rfl rfl rfl rfl ?_ | refine G.pickF rfl trivial rfl rfl rfl rfl ?_
      refine G.nil ?_
      refine C.yes rfl (by omega) ?_
      refine C.seq ?_
      refine C.region ?_
      refine G.assignB rfl trivial rfl rfl rfl ?_
      refine G.nil ?_
      refine C.ret ?_
      -- end g18Fg22F
      exact ⟨rfl, _, Res.of (rs := [.tmp 4]) rfl rfl, rfl⟩
theorem up_one (n : Nat) (k : ByteArray) (h1 : n = 1) (hk16 : k.size ≤ 16) : FnS Try.prog W0 8 #[.int .i64 n, .string k] [] (fun e _ => e = .returned (.bool true)) := by
  refine FnS.of (args := [.int .i64 (n : Int), .string k]) Try.func8 rfl rfl ?_
  refine C.seq ?_
  refine C.region ?_
  refine G.assignB rfl trivial rfl rfl rfl ?_
  refine G.nil ?_
  refine C.seq ?_
  refine C.region ?_
  refine G.call E9 rfl rfl trivial rfl rfl (begun_spec W0 _) rfl ?_
  rintro e L2 ⟨rfl, rfl⟩
  refine G.assignB rfl trivial rfl rfl rfl ?_
  refine G.nil ?_
  refine C.seq ?_
  refine C.seq ?_
  refine C.region ?_
  refine G.moveB rfl trivial rfl rfl rfl ?_
  first | refine G.notD rfl trivial rfl rfl rfl ?_ | refine G.not rfl trivial rfl rfl rfl ?_
  refine G.nil ?_
  refine C.condF rfl ?_
  refine C.skip ?_
  refine C.seq ?_
  refine C.seq ?_
  refine C.region ?_
  refine G.moveI rfl trivial rfl rfl rfl ?_
  refine G.bin rfl trivial rfl rfl rfl rfl rfl ?_
  refine G.moveB rfl trivial rfl rfl rfl ?_
  refine G.no (t := 18) rfl (by omega) ?_
  refine G.moveI rfl ⟨_, rfl, rfl, rfl⟩ rfl rfl rfl ?_
  refine G.bin rfl ⟨_, rfl, rfl, rfl⟩ rfl rfl rfl rfl rfl ?_
  first | refine G.pickT rfl trivial rfl rfl rfl rfl ?_ | refine G.pickF rfl trivial rfl rfl rfl rfl ?_
  refine G.moveB rfl trivial rfl rfl rfl ?_
  refine G.no (t := 22) rfl (by omega) ?_
  refine G.moveT rfl ⟨_, rfl, rfl, rfl⟩ rfl rfl rfl ?_
  refine G.lenStr rfl ⟨_, rfl, rfl, rfl⟩ rfl rfl Try.underlying9 rfl ?_
  refine G.bin rfl ⟨_, rfl, rfl, rfl⟩ rfl rfl rfl rfl rfl ?_
  first | refine G.pickT rfl trivial rfl rfl rfl rfl ?_ | refine G.pickF rfl trivial rfl rfl rfl rfl ?_
  refine G.nil ?_
  refine C.no rfl (by omega) ?_
  refine C.skip ?_
  refine C.seq ?_
  refine C.region ?_
  refine G.call E10 rfl rfl trivial rfl rfl (new_spec W0 _) rfl ?_
  rintro e L2 ⟨bk, s1, s2, hk, rfl, rfl⟩
  refine G.assignP rfl trivial rfl rfl rfl ?_
  refine G.nil ?_
  refine C.seq ?_
  refine C.seq ?_
  refine C.region ?_
  refine G.assignI rfl trivial rfl rfl rfl ?_
  refine G.nil ?_
  refine C.block ?_
  refine C.loop (fun m F D' L' => ∃ (i : Nat) (s1 s2 : Seg), m = n - i + 0 ∧ i ≤ n ∧ LkIs bk (rd k i) s1 s2 ∧ F 0 = .int .i64 (n : Int) ∧ F 1 = .string k ∧ F 6 = .pointer (some ⟨bk, 0, none⟩) ∧ F 7 = .int .i64 ((i + 1 : Nat) : Int) ∧ D' = [] ∧ s1 :: s2 :: [] = L') ⟨_, ⟨0, s1, s2, rfl, by omega, hk, rfl, rfl, rfl, rfl, rfl, rfl⟩⟩ ?_
  rintro m F D' L' ⟨i, s1, s2, rfl, hi, hk, h0, h1', h6, h7, rfl, rfl⟩
  refine C.fix (d := 0) h0 ?_
  refine C.fix (d := 1) h1' ?_
  refine C.fix (d := 6) h6 ?_
  refine C.fix (d := 7) h7 ?_
  refine C.seq ?_
  refine C.seq ?_
  refine C.region ?_
  refine G.moveI rfl trivial rfl rfl rfl ?_
  refine G.moveI rfl trivial rfl rfl rfl ?_
  refine G.bin rfl trivial rfl rfl rfl rfl rfl ?_
  refine G.nil ?_
  refine C.cond _ rfl ?_ ?_
  · intro hc2
    refine C.skip ?_
    refine C.seq ?_
    refine C.block ?_
    refine C.seq ?_
    refine C.region ?_
    refine G.moveP rfl trivial rfl rfl rfl ?_
    refine G.moveI rfl trivial rfl rfl rfl ?_
    refine G.moveT rfl trivial rfl rfl rfl ?_
    refine G.call E12 rfl rfl trivial rfl rfl (lock_ok W0 [] bk (rd k i) (rd k (i + 1)) s1 s2 hk (by rw [rd_length]; omega) ((i + 1 : Nat) : Int) 1 k (by decide) (rd_quiet k _ i) (by rw [show lockOf ((i + 1 : Nat) : Int) 1 k = ((i : Int) + 1, 1, k) by simp [lockOf], rd_new, rd_succ]; rfl)) rfl ?_
    rintro e L2 ⟨a1, c1, s3, s4, hk2, rfl, rfl⟩
    refine G.moveU rfl trivial rfl rfl rfl ?_
    refine G.extractL rfl trivial rfl rfl rfl rfl ?_
    refine G.extractL rfl trivial rfl rfl rfl rfl ?_
    refine G.assignS rfl trivial rfl rfl rfl ?_
    refine G.assignB rfl trivial rfl rfl rfl ?_
    refine G.nil ?_
    refine C.seq ?_
    refine C.region ?_
    refine G.moveB rfl trivial rfl rfl rfl ?_
    first | refine G.notD rfl trivial rfl rfl rfl ?_ | refine G.not rfl trivial rfl rfl rfl ?_
    refine G.nil ?_
    refine C.condF rfl ?_
    refine C.skip ?_
    refine C.region ?_
    refine G.moveI rfl trivial rfl rfl rfl ?_
    refine G.addN (j := 1) rfl trivial rfl rfl rfl rfl (by omega) ?_
    refine G.assignI rfl trivial rfl rfl rfl ?_
    refine G.nil ?_
    exact ⟨n - (i + 1) + 0, by omega, i + 1, s3, s4, rfl, by omega, hk2, rfl, rfl, rfl, rfl, rfl, rfl⟩
  · intro hc2
    obtain rfl : i = n := by omega
    subst h1
    refine C.exit ?_
    refine C.seq ?_
    refine C.region ?_
    refine G.moveP rfl trivial rfl rfl rfl ?_
    refine G.moveT rfl trivial rfl rfl rfl ?_
    refine G.call E12 rfl rfl trivial rfl rfl (lock_ok W0 [] bk (rd k 1) [(1, 1, k), (1, 2, k)] s1 s2 hk (by simp [rd]) 1 2 k (by decide) (rd_up k 0) (by rw [show lockOf 1 2 k = ((1 : Int), (2 : Int), k) from rfl, show inL ((1 : Int), (2 : Int), k) (rd k 1) = false by simp [rd, inL]]; rfl)) rfl ?_
    rintro e L2 ⟨a1, c1, s3, s4, hk2, rfl, rfl⟩
    refine G.moveU rfl trivial rfl rfl rfl ?_
    refine G.extractL rfl trivial rfl rfl rfl rfl ?_
    refine G.extractL rfl trivial rfl rfl rfl rfl ?_
    refine G.assignS rfl trivial rfl rfl rfl ?_
    refine G.assignB rfl trivial rfl rfl rfl ?_
    refine G.nil ?_
    refine C.seq ?_
    refine C.seq ?_
    refine C.region ?_
    refine G.moveI rfl trivial rfl rfl rfl ?_
    refine G.bin rfl trivial rfl rfl rfl rfl rfl ?_
    refine G.nil ?_
    refine C.condT rfl ?_
    refine C.seq ?_
    refine C.region ?_
    refine G.moveB rfl trivial rfl rfl rfl ?_
    refine G.moveB rfl trivial rfl rfl rfl ?_
    refine G.moveS rfl ⟨_, rfl, rfl, rfl⟩ rfl rfl rfl ?_
    refine G.lenSlice rfl ⟨_, rfl, rfl, rfl⟩ rfl rfl Try.underlying33 rfl ?_
    refine G.bin rfl ⟨_, rfl, rfl, rfl⟩ rfl rfl rfl rfl rfl ?_
    first | refine G.pickT rfl trivial rfl rfl rfl rfl ?_ | refine G.pickF rfl trivial rfl rfl rfl rfl ?_
    refine G.moveB rfl trivial rfl rfl rfl ?_
    refine G.moveP rfl ⟨_, rfl, rfl, rfl⟩ rfl rfl rfl ?_
    refine G.moveT rfl ⟨_, rfl, rfl, rfl⟩ rfl rfl rfl ?_
    refine G.call E18 rfl rfl ⟨_, rfl, rfl, rfl⟩ rfl rfl (lhas_spec W0 _ bk _ s3 s4 hk2 (by simp) 1 2 k) rfl ?_
    rintro e L2 ⟨rfl, rfl⟩
    rw [show inL (lockOf 1 2 k) [(1, 1, k), (1, 2, k)] = true from (inL_iff _ _).2 (by simp [lockOf])]
    first | refine G.pickT rfl trivial rfl rfl rfl rfl ?_ | refine G.pickF rfl trivial rfl rfl rfl rfl ?_
    refine G.moveB rfl trivial rfl rfl rfl ?_
    refine G.moveP rfl ⟨_, rfl, rfl, rfl⟩ rfl rfl rfl ?_
    refine G.call E17 rfl rfl ⟨_, rfl, rfl, rfl⟩ rfl rfl (llen_spec W0 _ bk _ s3 s4 hk2) rfl ?_
    rintro e L2 ⟨rfl, rfl⟩
    refine G.bin rfl ⟨_, rfl, rfl, rfl⟩ rfl rfl rfl rfl rfl ?_
    first | refine G.pickT rfl trivial rfl rfl rfl rfl ?_ | refine G.pickF rfl trivial rfl rfl rfl rfl ?_
    refine G.assignB rfl trivial rfl rfl rfl ?_
    refine G.nil ?_
    refine C.ret ?_
    -- end c2F
    exact ⟨rfl, _, Res.of (rs := [.tmp 4]) rfl rfl, rfl⟩
theorem up_more (n : Nat) (k : ByteArray) (h1 : 2 ≤ n) (h10 : n ≤ 10) (hk16 : k.size ≤ 16) : FnS Try.prog W0 8 #[.int .i64 n, .string k] [] (fun e _ => e = .returned (.bool true)) := by
  refine FnS.of (args := [.int .i64 (n : Int), .string k]) Try.func8 rfl rfl ?_
  refine C.seq ?_
  refine C.region ?_
  refine G.assignB rfl trivial rfl rfl rfl ?_
  refine G.nil ?_
  refine C.seq ?_
  refine C.region ?_
  refine G.call E9 rfl rfl trivial rfl rfl (begun_spec W0 _) rfl ?_
  rintro e L2 ⟨rfl, rfl⟩
  refine G.assignB rfl trivial rfl rfl rfl ?_
  refine G.nil ?_
  refine C.seq ?_
  refine C.seq ?_
  refine C.region ?_
  refine G.moveB rfl trivial rfl rfl rfl ?_
  first | refine G.notD rfl trivial rfl rfl rfl ?_ | refine G.not rfl trivial rfl rfl rfl ?_
  refine G.nil ?_
  refine C.condF rfl ?_
  refine C.skip ?_
  refine C.seq ?_
  refine C.seq ?_
  refine C.region ?_
  refine G.moveI rfl trivial rfl rfl rfl ?_
  refine G.bin rfl trivial rfl rfl rfl rfl rfl ?_
  refine G.moveB rfl trivial rfl rfl rfl ?_
  refine G.no (t := 18) rfl (by omega) ?_
  refine G.moveI rfl ⟨_, rfl, rfl, rfl⟩ rfl rfl rfl ?_
  refine G.bin rfl ⟨_, rfl, rfl, rfl⟩ rfl rfl rfl rfl rfl ?_
  first | refine G.pickT rfl trivial rfl rfl rfl rfl ?_ | refine G.pickF rfl trivial rfl rfl rfl rfl ?_
  refine G.moveB rfl trivial rfl rfl rfl ?_
  refine G.no (t := 22) rfl (by omega) ?_
  refine G.moveT rfl ⟨_, rfl, rfl, rfl⟩ rfl rfl rfl ?_
  refine G.lenStr rfl ⟨_, rfl, rfl, rfl⟩ rfl rfl Try.underlying9 rfl ?_
  refine G.bin rfl ⟨_, rfl, rfl, rfl⟩ rfl rfl rfl rfl rfl ?_
  first | refine G.pickT rfl trivial rfl rfl rfl rfl ?_ | refine G.pickF rfl trivial rfl rfl rfl rfl ?_
  refine G.nil ?_
  refine C.no rfl (by omega) ?_
  refine C.skip ?_
  refine C.seq ?_
  refine C.region ?_
  refine G.call E10 rfl rfl trivial rfl rfl (new_spec W0 _) rfl ?_
  rintro e L2 ⟨bk, s1, s2, hk, rfl, rfl⟩
  refine G.assignP rfl trivial rfl rfl rfl ?_
  refine G.nil ?_
  refine C.seq ?_
  refine C.seq ?_
  refine C.region ?_
  refine G.assignI rfl trivial rfl rfl rfl ?_
  refine G.nil ?_
  refine C.block ?_
  refine C.loop (fun m F D' L' => ∃ (i : Nat) (s1 s2 : Seg), m = n - i + 0 ∧ i ≤ n ∧ LkIs bk (rd k i) s1 s2 ∧ F 0 = .int .i64 (n : Int) ∧ F 1 = .string k ∧ F 6 = .pointer (some ⟨bk, 0, none⟩) ∧ F 7 = .int .i64 ((i + 1 : Nat) : Int) ∧ D' = [] ∧ s1 :: s2 :: [] = L') ⟨_, ⟨0, s1, s2, rfl, by omega, hk, rfl, rfl, rfl, rfl, rfl, rfl⟩⟩ ?_
  rintro m F D' L' ⟨i, s1, s2, rfl, hi, hk, h0, h1', h6, h7, rfl, rfl⟩
  refine C.fix (d := 0) h0 ?_
  refine C.fix (d := 1) h1' ?_
  refine C.fix (d := 6) h6 ?_
  refine C.fix (d := 7) h7 ?_
  refine C.seq ?_
  refine C.seq ?_
  refine C.region ?_
  refine G.moveI rfl trivial rfl rfl rfl ?_
  refine G.moveI rfl trivial rfl rfl rfl ?_
  refine G.bin rfl trivial rfl rfl rfl rfl rfl ?_
  refine G.nil ?_
  refine C.cond _ rfl ?_ ?_
  · intro hc2
    refine C.skip ?_
    refine C.seq ?_
    refine C.block ?_
    refine C.seq ?_
    refine C.region ?_
    refine G.moveP rfl trivial rfl rfl rfl ?_
    refine G.moveI rfl trivial rfl rfl rfl ?_
    refine G.moveT rfl trivial rfl rfl rfl ?_
    refine G.call E12 rfl rfl trivial rfl rfl (lock_ok W0 [] bk (rd k i) (rd k (i + 1)) s1 s2 hk (by rw [rd_length]; omega) ((i + 1 : Nat) : Int) 1 k (by decide) (rd_quiet k _ i) (by rw [show lockOf ((i + 1 : Nat) : Int) 1 k = ((i : Int) + 1, 1, k) by simp [lockOf], rd_new, rd_succ]; rfl)) rfl ?_
    rintro e L2 ⟨a1, c1, s3, s4, hk2, rfl, rfl⟩
    refine G.moveU rfl trivial rfl rfl rfl ?_
    refine G.extractL rfl trivial rfl rfl rfl rfl ?_
    refine G.extractL rfl trivial rfl rfl rfl rfl ?_
    refine G.assignS rfl trivial rfl rfl rfl ?_
    refine G.assignB rfl trivial rfl rfl rfl ?_
    refine G.nil ?_
    refine C.seq ?_
    refine C.region ?_
    refine G.moveB rfl trivial rfl rfl rfl ?_
    first | refine G.notD rfl trivial rfl rfl rfl ?_ | refine G.not rfl trivial rfl rfl rfl ?_
    refine G.nil ?_
    refine C.condF rfl ?_
    refine C.skip ?_
    refine C.region ?_
    refine G.moveI rfl trivial rfl rfl rfl ?_
    refine G.addN (j := 1) rfl trivial rfl rfl rfl rfl (by omega) ?_
    refine G.assignI rfl trivial rfl rfl rfl ?_
    refine G.nil ?_
    exact ⟨n - (i + 1) + 0, by omega, i + 1, s3, s4, rfl, by omega, hk2, rfl, rfl, rfl, rfl, rfl, rfl⟩
  · intro hc2
    obtain rfl : i = n := by omega
    obtain ⟨p, rfl⟩ : ∃ p, i = p + 1 := ⟨i - 1, by omega⟩
    have hpl := upR_length p
    refine C.exit ?_
    refine C.seq ?_
    refine C.region ?_
    refine G.moveP rfl trivial rfl rfl rfl ?_
    refine G.moveT rfl trivial rfl rfl rfl ?_
    refine G.call E12 rfl rfl trivial rfl rfl (lock_no W0 [] bk (rd k (p + 1)) s1 s2 hk (by rw [rd_length]; omega) 1 2 k (by decide) (by rw [show lockOf 1 2 k = ((1 : Int), (2 : Int), k) from rfl, rd_up]; intro h; have := congrArg List.length h; rw [hpl] at this; simp at this; omega) (upR p) (refused_rising (rd_up k p) (upR_rising p))) rfl ?_
    rintro e L2 ⟨a1, c1, sv, s3, s4, hk2, hv, rfl, rfl⟩
    obtain ⟨bo, co, ko, hoe, rfl, _, _⟩ := hv.block (by omega)
    cases hoe
    refine G.moveU rfl trivial rfl rfl rfl ?_
    refine G.extractL rfl trivial rfl rfl rfl rfl ?_
    refine G.extractL rfl trivial rfl rfl rfl rfl ?_
    refine G.assignS rfl trivial rfl rfl rfl ?_
    refine G.assignB rfl trivial rfl rfl rfl ?_
    refine G.nil ?_
    refine C.seq ?_
    refine C.seq ?_
    refine C.region ?_
    refine G.moveI rfl trivial rfl rfl rfl ?_
    refine G.bin rfl trivial rfl rfl rfl rfl rfl ?_
    refine G.nil ?_
    refine C.no rfl (by omega) ?_
    refine C.skip ?_
    refine C.seq ?_
    refine C.seq ?_
    refine C.region ?_
    refine G.moveB rfl trivial rfl rfl rfl ?_
    refine G.moveB rfl trivial rfl rfl rfl ?_
    refine G.moveS rfl ⟨_, rfl, rfl, rfl⟩ rfl rfl rfl ?_
    refine G.lenSlice rfl ⟨_, rfl, rfl, rfl⟩ rfl rfl Try.underlying33 rfl ?_
    refine G.moveI rfl ⟨_, rfl, rfl, rfl⟩ rfl rfl rfl ?_
    refine G.subN (j := 1) rfl ⟨_, rfl, rfl, rfl⟩ rfl rfl rfl rfl (by omega) ?_
    refine G.bin rfl ⟨_, rfl, rfl, rfl⟩ rfl rfl rfl rfl rfl ?_
    first | refine G.pickT rfl trivial rfl rfl rfl rfl ?_ | refine G.pickF rfl trivial rfl rfl rfl rfl ?_
    refine G.moveB rfl trivial rfl rfl rfl ?_
    refine G.no (t := 74) rfl (by rw [hpl]; omega) ?_
    refine G.moveP rfl ⟨_, rfl, rfl, rfl⟩ rfl rfl rfl ?_
    refine G.call E17 rfl rfl ⟨_, rfl, rfl, rfl⟩ rfl rfl (FnS.perm (llen_spec W0 _ bk _ s3 s4 hk2) P3.symm) rfl ?_
    rintro e L2 ⟨rfl, rfl⟩
    refine G.moveI rfl ⟨_, rfl, rfl, rfl⟩ rfl rfl rfl ?_
    refine G.bin rfl ⟨_, rfl, rfl, rfl⟩ rfl rfl rfl rfl rfl ?_
    first | refine G.pickT rfl trivial rfl rfl rfl rfl ?_ | refine G.pickF rfl trivial rfl rfl rfl rfl ?_
    refine G.nil ?_
    refine C.no rfl (by rw [rd_length]; omega) ?_
    refine C.skip ?_
    refine C.seq ?_
    refine C.seq ?_
    refine C.region ?_
    refine G.assignI rfl trivial rfl rfl rfl ?_
    refine G.nil ?_
    refine C.block ?_
    refine C.loop (fun m F D' L' => ∃ (j : Nat), m = p - j + 0 ∧ j ≤ p ∧ F 10 = .slice (some ⟨bo, 0, none⟩) (upR p).length c1 ∧ F 12 = .int .i64 (j : Int) ∧ D' = [] ∧ s3 :: s4 :: [(bo, .row ((upR p).map (Value.int .i64)) 2 ko)] :: [] = L') ⟨_, ⟨0, rfl, by omega, rfl, rfl, rfl, rfl⟩⟩ ?_
    rintro m F D' L' ⟨j, rfl, hj, h10', h12, rfl, rfl⟩
    refine C.fix (d := 10) h10' ?_
    refine C.fix (d := 12) h12 ?_
    refine C.seq ?_
    refine C.seq ?_
    refine C.region ?_
    refine G.moveI rfl trivial rfl rfl rfl ?_
    refine G.moveS rfl trivial rfl rfl rfl ?_
    refine G.lenSlice rfl trivial rfl rfl Try.underlying33 rfl ?_
    refine G.bin rfl trivial rfl rfl rfl rfl rfl ?_
    refine G.nil ?_
    refine C.cond _ rfl ?_ ?_
    · intro hc6
      refine C.skip ?_
      refine C.seq ?_
      refine C.block ?_
      refine C.seq ?_
      refine C.region ?_
      refine G.moveS rfl trivial rfl rfl rfl ?_
      refine G.moveI rfl trivial rfl rfl rfl ?_
      refine G.idxN rfl trivial rfl rfl Try.underlying33 I2 rfl rfl (by omega) ?_
      refine G.loadAt (.next (.next .here)) rfl trivial rfl rfl Try.underlying2 rfl rfl (upR_at (by omega)) ?_
      refine G.moveI rfl trivial rfl rfl rfl ?_
      refine G.add rfl trivial rfl rfl rfl rfl (by omega) ?_
      refine G.bin rfl trivial rfl rfl rfl rfl rfl ?_
      refine G.nil ?_
      refine C.no rfl (by simp) ?_
      refine C.skip ?_
      refine C.region ?_
      refine G.moveI rfl trivial rfl rfl rfl ?_
      refine G.addN (j := 1) rfl trivial rfl rfl rfl rfl (by omega) ?_
      refine G.assignI rfl trivial rfl rfl rfl ?_
      refine G.nil ?_
      exact ⟨p - (j + 1) + 0, by omega, j + 1, rfl, by omega, rfl, rfl, rfl, rfl⟩
    · intro hc6
      refine C.exit ?_
      refine C.seq ?_
      refine C.region ?_
      refine G.assignB rfl trivial rfl rfl rfl ?_
      refine G.nil ?_
      refine C.ret ?_
      -- end c2Fc6F
      exact ⟨rfl, _, Res.of (rs := [.tmp 4]) rfl rfl, rfl⟩
end laws
end Go.Proofs.Ytkiiafmcfdfbhaa
