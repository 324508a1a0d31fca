/-
  Transactions: TxnMany, TxnFree walked.
-/
import Derived.Test.YtomiidlbfcfpiaaTx3
namespace Go.Proofs.Ytomiidlbfcfpiaa
open Go Go.SL Go.RowKit Go.Sort

/-- so many that follow one another -/
def idsN (f i : Nat) : List Int := (List.range i).map fun (j : Nat) => ((f + j : Nat) : Int)
theorem idsN_len (f i : Nat) : (idsN f i).length = i := by simp [idsN]
theorem idsN_mem {f i : Nat} {x : Int} : x ∈ idsN f i ↔ ∃ j, j < i ∧ x = ((f + j : Nat) : Int) := by
  unfold idsN
  rw [List.mem_map]
  constructor
  · rintro ⟨j, hj, rfl⟩; exact ⟨j, List.mem_range.1 hj, rfl⟩
  · rintro ⟨j, hj, rfl⟩; exact ⟨j, List.mem_range.2 hj, rfl⟩
theorem idsN_up (f i : Nat) : (idsN f i).Pairwise (· < ·) := by
  unfold idsN
  rw [List.pairwise_map]
  exact List.pairwise_lt_range.imp fun h => by omega
theorem idsN_succ (f i : Nat) : idsN f (i + 1) = idsN f i ++ [((f + i : Nat) : Int)] := by simp [idsN, List.range_succ]
theorem ins_end {l : List Int} {x : Int} (h : ∀ y ∈ l, y < x) : insL l x = l ++ [x] := by
  induction l with
  | nil => rfl
  | cons y ys ih =>
    unfold insL
    rw [if_pos (h y (by simp)), ih fun z hz => h z (by simp [hz])]
    rfl
theorem idsN_ins (f i : Nat) : insL (idsN f i) ((f + i : Nat) : Int) = idsN f (i + 1) := by
  rw [idsN_succ, ins_end]
  intro y hy
  obtain ⟨j, hj, rfl⟩ := idsN_mem.1 hy
  omega
theorem idsN_begin {f i : Nat} (h1 : 1 ≤ f) (h2 : f + i ≤ 1099511627776) (h8 : i ≤ 8) : beginC (idsN f i) ((f + i : Nat) : Int) = if 8 ≤ i then 4 else 0 := by
  have hn : ((f + i : Nat) : Int) ∉ idsN f i := fun h => by
    obtain ⟨j, hj, e⟩ := idsN_mem.1 h
    omega
  unfold beginC
  rw [if_neg (by omega), if_neg hn, idsN_len]
theorem idsN_full {f i : Nat} (h1 : 1 ≤ f) (h2 : f + i ≤ 1099511627776) (h8 : 8 ≤ i) : beginC (idsN f 8) ((f + i : Nat) : Int) = 4 := by
  have hn : ((f + i : Nat) : Int) ∉ idsN f 8 := fun h => by
    obtain ⟨j, hj, e⟩ := idsN_mem.1 h
    omega
  unfold beginC
  rw [if_neg (by omega), if_neg hn, idsN_len, if_pos (by decide)]
theorem many_end {f : Nat} (h1 : 1 ≤ f) (h2 : f ≤ 549755813888) : beginC (without (f : Int) (idsN f 8)) ((f : Int) + 100) = 0 := by
  have hn : ((f : Int) + 100) ∉ without (f : Int) (idsN f 8) := fun h => by
    obtain ⟨j, hj, e⟩ := idsN_mem.1 (List.mem_filter.1 h).1
    omega
  have hl : (without (f : Int) (idsN f 8)).length < 8 := by
    have : without (f : Int) (idsN f 8) = (idsN f 8).filter (fun y => !decide (y = (f : Int))) := rfl
    rw [this, show idsN f 8 = (f : Int) :: (List.range 7).map (fun (j : Nat) => ((f + (j + 1) : Nat) : Int)) from rfl, List.filter_cons_of_neg (by simp)]
    have := List.length_filter_le (fun y => !decide (y = (f : Int))) ((List.range 7).map (fun (j : Nat) => ((f + (j + 1) : Nat) : Int)))
    simp at this ⊢
    omega
  unfold beginC
  rw [if_neg (by omega), if_neg hn, if_neg (by omega)]
theorem free_on {i : Nat} (h : 1 ≤ i) {mo : Int} (hm : 1 ≤ mo ∧ mo ≤ 3) : onL (lockOf ((i + 1 : Nat) : Int) mo kK) [(1, 2, kK)] = [1] := by
  have hm' : mo = 1 ∨ mo = 2 ∨ mo = 3 := by omega
  have hne : ¬ (i : Int) + 1 = 1 := by omega
  have hag : againstB (lockOf ((i + 1 : Nat) : Int) mo kK) (1, 2, kK) = true := by
    unfold againstB lockOf
    rcases hm' with rfl | rfl | rfl <;> simp [hne]
  unfold onL
  rw [List.filter_cons_of_pos hag]
  rfl
theorem free_step {mo : Int} (hm : 1 ≤ mo ∧ mo ≤ 3) {j : Nat} {ls : List One} (hj : 1 ≤ j) (hll : ls.length ≤ j) (hle : ∀ y ∈ ls, y.1 ≤ (j : Int)) (h1 : mo ≠ 2 → ∀ y ∈ ls, y.2.1 = mo) (h2 : mo = 2 → ls = if j = 1 then [] else [((2 : Int), (2 : Int), kK)]) {r : Int} (hr : r = 0 ↔ onL (lockOf ((j + 1 : Nat) : Int) mo kK) ls = []) :
    (r = 0 ↔ (((j + 1 : Nat) : Int) = 2 ∨ ¬ mo = 2)) ∧ (locked (lockOf ((j + 1 : Nat) : Int) mo kK) ls).length ≤ j + 1 ∧ (∀ y ∈ locked (lockOf ((j + 1 : Nat) : Int) mo kK) ls, y.1 ≤ ((j + 1 : Nat) : Int)) ∧ (mo ≠ 2 → ∀ y ∈ locked (lockOf ((j + 1 : Nat) : Int) mo kK) ls, y.2.1 = mo) ∧ (mo = 2 → locked (lockOf ((j + 1 : Nat) : Int) mo kK) ls = if j + 1 = 1 then [] else [((2 : Int), (2 : Int), kK)]) := by
  have hlen := locked_le (lockOf ((j + 1 : Nat) : Int) mo kK) ls
  refine ⟨?_, by omega, locked_all (by show ((j + 1 : Nat) : Int) ≤ _; exact Int.le_refl _) fun y hy => by have := hle y hy; omega, fun hne => locked_all (by rfl) (h1 hne), fun he => ?_⟩
  · rw [hr]
    by_cases he : mo = 2
    · subst he
      rw [h2 rfl]
      by_cases hj1 : j = 1
      · subst hj1; simp [onL]
      · rw [if_neg hj1]
        have hne : ¬ (j : Int) + 1 = 2 := by omega
        have hag : againstB (lockOf ((j + 1 : Nat) : Int) 2 kK) (2, 2, kK) = true := by unfold againstB lockOf; simp [hne]
        unfold onL
        rw [List.filter_cons_of_pos hag]
        simp [hne]
    · have hno : onL (lockOf ((j + 1 : Nat) : Int) mo kK) ls = [] := by
        unfold onL
        rw [List.map_eq_nil_iff, List.filter_eq_nil_iff]
        intro y hy
        have h3 := h1 he y hy
        have hm' : mo = 1 ∨ mo = 3 := by omega
        unfold againstB lockOf
        rcases hm' with rfl | rfl <;> simp [h3]
      exact ⟨fun _ => .inr he, fun _ => hno⟩
  · subst he
    rw [if_neg (by omega)]
    have h3 := h2 rfl
    by_cases hj1 : j = 1
    · subst hj1; rw [if_pos rfl] at h3; subst h3; rfl
    · rw [if_neg hj1] at h3
      subst h3
      have hne : ¬ (j : Int) + 1 = 2 := by omega
      have hag : againstB (lockOf ((j + 1 : Nat) : Int) 2 kK) (2, 2, kK) = true := by unfold againstB lockOf; simp [hne]
      refine locked_no fun h => ?_
      unfold onL at h
      rw [List.filter_cons_of_pos hag] at h
      cases h
theorem TxIs.upto {bt N M : Nat} {ids : List Int} {ls : List One} {g : Int → List Int} {s : Seg} (h : TxIs bt ids ls g N s) (hN : N ≤ M) : TxIs bt ids ls g M s := by
  obtain ⟨vi, si, bk, l1, l2, bw, w1, w2, w3, hv, hk, ⟨bm, en, ck, h1, h2, h3, h4, h5, h6, h7⟩, e⟩ := h
  exact ⟨vi, si, bk, l1, l2, bw, w1, w2, w3, hv, hk, ⟨bm, en, ck, h1, h2, h3, h4, h5, by omega, h7⟩, e⟩
section laws
variable (W0 : World)
theorem many_out (n f : Int) (h : ¬ (0 ≤ n ∧ n ≤ 20 ∧ 1 ≤ f ∧ f ≤ 549755813888)) : FnS Try.prog W0 4 #[.int .i64 n, .int .i64 f] [] (fun e _ => e = .returned (.bool true)) := by
  refine FnS.of (args := [.int .i64 n, .int .i64 f]) Try.func4 rfl rfl ?_
  refine C.seq ?_
  refine C.region ?_
  refine G.assignB rfl trivial rfl rfl rfl ?_
  refine G.nil ?_
  refine C.seq ?_
  refine C.region ?_
  refine G.call E8 rfl rfl trivial rfl rfl (tbegun_spec W0 _) rfl ?_
  rintro e L2 ⟨rfl, rfl⟩
  refine G.assignB rfl trivial rfl rfl rfl ?_
  refine G.nil ?_
  refine C.seq ?_
  refine C.seq ?_
  refine C.region ?_
  refine G.moveB rfl trivial rfl rfl rfl ?_
  first | refine G.notD rfl trivial rfl rfl rfl ?_ | refine G.not rfl trivial rfl rfl rfl ?_
  refine G.nil ?_
  refine C.condF rfl ?_
  refine C.skip ?_
  refine C.seq ?_
  refine C.seq ?_
  refine C.region ?_
  refine G.moveI rfl trivial rfl rfl rfl ?_
  refine G.bin rfl trivial rfl rfl rfl rfl rfl ?_
  refine G.moveB rfl trivial rfl rfl rfl ?_
  refine G.fork (t := 14) _ rfl ?_ ?_
  · intro hg14
    refine G.skip rfl rfl rfl rfl rfl rfl ?_
    refine G.skip rfl rfl rfl rfl rfl rfl ?_
    first | refine G.pickT rfl trivial rfl rfl rfl rfl ?_ | refine G.pickF rfl trivial rfl rfl rfl rfl ?_
    refine G.moveB rfl trivial rfl rfl rfl ?_
    refine G.skip rfl rfl rfl rfl rfl rfl ?_
    refine G.skip rfl rfl rfl rfl rfl rfl ?_
    first | refine G.pickT rfl trivial rfl rfl rfl rfl ?_ | refine G.pickF rfl trivial rfl rfl rfl rfl ?_
    refine G.moveB rfl trivial rfl rfl rfl ?_
    refine G.skip rfl rfl rfl rfl rfl rfl ?_
    refine G.skip rfl rfl rfl rfl rfl rfl ?_
    first | refine G.pickT rfl trivial rfl rfl rfl rfl ?_ | refine G.pickF rfl trivial rfl rfl rfl rfl ?_
    refine G.nil ?_
    refine C.condT rfl ?_
    refine C.seq ?_
    refine C.region ?_
    refine G.assignB rfl trivial rfl rfl rfl ?_
    refine G.nil ?_
    refine C.ret ?_
    -- end g14T
    exact ⟨rfl, _, Res.of (rs := [.tmp 4]) rfl rfl, rfl⟩
  · intro hg14
    refine G.moveI rfl ⟨_, rfl, rfl, rfl⟩ rfl rfl rfl ?_
    refine G.bin rfl ⟨_, rfl, rfl, rfl⟩ rfl rfl rfl rfl rfl ?_
    first | refine G.pickT rfl trivial rfl rfl rfl rfl ?_ | refine G.pickF rfl trivial rfl rfl rfl rfl ?_
    refine G.moveB rfl trivial rfl rfl rfl ?_
    refine G.fork (t := 18) _ rfl ?_ ?_
    · intro hg18
      refine G.skip rfl rfl rfl rfl rfl rfl ?_
      refine G.skip rfl rfl rfl rfl rfl rfl ?_
      first | refine G.pickT rfl trivial rfl rfl rfl rfl ?_ | refine G.pickF rfl trivial rfl rfl rfl rfl ?_
      refine G.moveB rfl trivial rfl rfl rfl ?_
      refine G.skip rfl rfl rfl rfl rfl rfl ?_
      refine G.skip rfl rfl rfl rfl rfl rfl ?_
      first | refine G.pickT rfl trivial rfl rfl rfl rfl ?_ | refine G.pickF rfl trivial rfl rfl rfl rfl ?_
      refine G.nil ?_
      refine C.condT rfl ?_
      refine C.seq ?_
      refine C.region ?_
      refine G.assignB rfl trivial rfl rfl rfl ?_
      refine G.nil ?_
      refine C.ret ?_
      -- end g14Fg18T
      exact ⟨rfl, _, Res.of (rs := [.tmp 4]) rfl rfl, rfl⟩
    · intro hg18
      refine G.moveI rfl ⟨_, rfl, rfl, rfl⟩ rfl rfl rfl ?_
      refine G.bin rfl ⟨_, rfl, rfl, rfl⟩ rfl rfl rfl rfl rfl ?_
      first | refine G.pickT rfl trivial rfl rfl rfl rfl ?_ | refine G.pickF rfl trivial rfl rfl rfl rfl ?_
      refine G.moveB rfl trivial rfl rfl rfl ?_
      refine G.fork (t := 22) _ rfl ?_ ?_
      · intro hg22
        refine G.skip rfl rfl rfl rfl rfl rfl ?_
        refine G.skip rfl rfl rfl rfl rfl rfl ?_
        first | refine G.pickT rfl trivial rfl rfl rfl rfl ?_ | refine G.pickF rfl trivial rfl rfl rfl rfl ?_
        refine G.nil ?_
        refine C.condT rfl ?_
        refine C.seq ?_
        refine C.region ?_
        refine G.assignB rfl trivial rfl rfl rfl ?_
        refine G.nil ?_
        refine C.ret ?_
        -- end g14Fg18Fg22T
        exact ⟨rfl, _, Res.of (rs := [.tmp 4]) rfl rfl, rfl⟩
      · intro hg22
        refine G.moveI rfl ⟨_, rfl, rfl, rfl⟩ rfl rfl rfl ?_
        refine G.bin rfl ⟨_, rfl, rfl, rfl⟩ rfl rfl rfl rfl rfl ?_
        first | refine G.pickT rfl trivial rfl rfl rfl rfl ?_ | refine G.pickF rfl trivial rfl rfl rfl rfl ?_
        refine G.nil ?_
        refine C.yes rfl (by omega) ?_
        refine C.seq ?_
        refine C.region ?_
        refine G.assignB rfl trivial rfl rfl rfl ?_
        refine G.nil ?_
        refine C.ret ?_
        -- end g14Fg18Fg22F
        exact ⟨rfl, _, Res.of (rs := [.tmp 4]) rfl rfl, rfl⟩
theorem many_in (n f : Nat) (hn : n ≤ 20) (h1 : 1 ≤ f) (h2 : f ≤ 549755813888) : FnS Try.prog W0 4 #[.int .i64 n, .int .i64 f] [] (fun e _ => e = .returned (.bool true)) := by
  refine FnS.of (args := [.int .i64 (n : Int), .int .i64 (f : Int)]) Try.func4 rfl rfl ?_
  refine C.seq ?_
  refine C.region ?_
  refine G.assignB rfl trivial rfl rfl rfl ?_
  refine G.nil ?_
  refine C.seq ?_
  refine C.region ?_
  refine G.call E8 rfl rfl trivial rfl rfl (tbegun_spec W0 _) rfl ?_
  rintro e L2 ⟨rfl, rfl⟩
  refine G.assignB rfl trivial rfl rfl rfl ?_
  refine G.nil ?_
  refine C.seq ?_
  refine C.seq ?_
  refine C.region ?_
  refine G.moveB rfl trivial rfl rfl rfl ?_
  first | refine G.notD rfl trivial rfl rfl rfl ?_ | refine G.not rfl trivial rfl rfl rfl ?_
  refine G.nil ?_
  refine C.condF rfl ?_
  refine C.skip ?_
  refine C.seq ?_
  refine C.seq ?_
  refine C.region ?_
  refine G.moveI rfl trivial rfl rfl rfl ?_
  refine G.bin rfl trivial rfl rfl rfl rfl rfl ?_
  refine G.moveB rfl trivial rfl rfl rfl ?_
  refine G.no (t := 14) rfl (by omega) ?_
  refine G.moveI rfl ⟨_, rfl, rfl, rfl⟩ rfl rfl rfl ?_
  refine G.bin rfl ⟨_, rfl, rfl, rfl⟩ rfl rfl rfl rfl rfl ?_
  first | refine G.pickT rfl trivial rfl rfl rfl rfl ?_ | refine G.pickF rfl trivial rfl rfl rfl rfl ?_
  refine G.moveB rfl trivial rfl rfl rfl ?_
  refine G.no (t := 18) rfl (by omega) ?_
  refine G.moveI rfl ⟨_, rfl, rfl, rfl⟩ rfl rfl rfl ?_
  refine G.bin rfl ⟨_, rfl, rfl, rfl⟩ rfl rfl rfl rfl rfl ?_
  first | refine G.pickT rfl trivial rfl rfl rfl rfl ?_ | refine G.pickF rfl trivial rfl rfl rfl rfl ?_
  refine G.moveB rfl trivial rfl rfl rfl ?_
  refine G.no (t := 22) rfl (by omega) ?_
  refine G.moveI rfl ⟨_, rfl, rfl, rfl⟩ rfl rfl rfl ?_
  refine G.bin rfl ⟨_, rfl, rfl, rfl⟩ rfl rfl rfl rfl rfl ?_
  first | refine G.pickT rfl trivial rfl rfl rfl rfl ?_ | refine G.pickF rfl trivial rfl rfl rfl rfl ?_
  refine G.nil ?_
  refine C.no rfl (by omega) ?_
  refine C.skip ?_
  refine C.seq ?_
  refine C.region ?_
  refine G.call E9 rfl rfl trivial rfl rfl (tnew_spec W0 _) rfl ?_
  rintro e L2 ⟨bt, s1, h1s, rfl, rfl⟩
  refine G.assignP rfl trivial rfl rfl rfl ?_
  refine G.nil ?_
  refine C.seq ?_
  refine C.seq ?_
  refine C.region ?_
  refine G.assignI rfl trivial rfl rfl rfl ?_
  refine G.nil ?_
  refine C.block ?_
  refine C.loop (fun m F D' L' => ∃ (i q : Nat) (s : Seg), m = n - i + 0 ∧ i ≤ n ∧ q = min i 8 ∧ TxIs bt (idsN f q) [] (fun _ => []) 0 s ∧ F 0 = .int .i64 (n : Int) ∧ F 1 = .int .i64 (f : Int) ∧ F 6 = .pointer (some ⟨bt, 0, none⟩) ∧ F 7 = .int .i64 (i : Int) ∧ D' = [] ∧ s :: [] = L') ⟨_, ⟨0, 0, s1, rfl, Nat.zero_le _, rfl, h1s, rfl, rfl, rfl, rfl, rfl, rfl⟩⟩ ?_
  rintro m F D' L' ⟨i, q, s, rfl, hi, hq, hs, h0, h1', h6, h7, rfl, rfl⟩
  refine C.fix (d := 0) h0 ?_
  refine C.fix (d := 1) h1' ?_
  refine C.fix (d := 6) h6 ?_
  refine C.fix (d := 7) h7 ?_
  refine C.seq ?_
  refine C.seq ?_
  refine C.region ?_
  refine G.moveI rfl trivial rfl rfl rfl ?_
  refine G.moveI rfl trivial rfl rfl rfl ?_
  refine G.bin rfl trivial rfl rfl rfl rfl rfl ?_
  refine G.nil ?_
  refine C.cond _ rfl ?_ ?_
  · intro hc2
    refine C.skip ?_
    refine C.seq ?_
    refine C.block ?_
    refine C.seq ?_
    refine C.region ?_
    refine G.assignI rfl trivial rfl rfl rfl ?_
    refine G.nil ?_
    refine C.cut (fun F D' L' => ∃ w : Int, w = (if 8 ≤ i then 4 else 0) ∧ F 0 = .int .i64 (n : Int) ∧ F 1 = .int .i64 (f : Int) ∧ F 6 = .pointer (some ⟨bt, 0, none⟩) ∧ F 7 = .int .i64 (i : Int) ∧ F 8 = .int .i64 w ∧ D' = [] ∧ s :: [] = L') ?_ ?_
    ·
      refine C.seq ?_
      refine C.region ?_
      refine G.moveI rfl trivial rfl rfl rfl ?_
      refine G.bin rfl trivial rfl rfl rfl rfl rfl ?_
      refine G.nil ?_
      refine C.cond _ rfl ?_ ?_
      · intro hc3
        refine C.region ?_
        refine G.assignI rfl trivial rfl rfl rfl ?_
        refine G.nil ?_
        exact ⟨4, by rw [if_pos (by omega)], rfl, rfl, rfl, rfl, rfl, rfl, rfl⟩
      · intro hc3
        refine C.skip ?_
        exact ⟨0, by rw [if_neg (by omega)], rfl, rfl, rfl, rfl, rfl, rfl, rfl⟩
    ·
      rintro F D' L' ⟨w, hw, h0, h1', h6, h7, h8, rfl, rfl⟩
      refine C.fix (d := 0) h0 ?_
      refine C.fix (d := 1) h1' ?_
      refine C.fix (d := 6) h6 ?_
      refine C.fix (d := 7) h7 ?_
      refine C.fix (d := 8) h8 ?_
      refine C.seq ?_
      refine C.region ?_
      refine G.moveP rfl trivial rfl rfl rfl ?_
      refine G.moveI rfl trivial rfl rfl rfl ?_
      refine G.moveI rfl trivial rfl rfl rfl ?_
      refine G.addN rfl trivial rfl rfl rfl rfl (by omega) ?_
      refine G.call E11 rfl rfl trivial rfl rfl (tbegin_val W0 bt [] (idsN f q) [] (fun _ => []) 0 s hs (idsN_up f q) (by rw [idsN_len]; omega) ((f + i : Nat) : Int) w (by subst hw hq; rcases Nat.lt_or_ge i 8 with h | h; rw [Nat.min_eq_left (by omega), idsN_begin h1 (by omega) (by omega)]; rw [Nat.min_eq_right h, idsN_full h1 (by omega) h, if_pos h]) (idsN f (min (i + 1) 8)) (by subst hw hq; rcases Nat.lt_or_ge i 8 with h | h; rw [if_neg (show ¬ 8 ≤ i by omega), if_pos rfl, Nat.min_eq_left (by omega), Nat.min_eq_left (by omega), idsN_ins]; rw [if_pos h, if_neg (by decide), Nat.min_eq_right h, Nat.min_eq_right (by omega)])) rfl ?_
      rintro e L2 ⟨s2, h2s, rfl, rfl⟩
      refine G.moveI rfl trivial rfl rfl rfl ?_
      refine G.bin rfl trivial rfl rfl rfl rfl rfl ?_
      refine G.nil ?_
      refine C.no rfl (by simp) ?_
      refine C.skip ?_
      refine C.region ?_
      refine G.moveI rfl trivial rfl rfl rfl ?_
      refine G.addN (j := 1) rfl trivial rfl rfl rfl rfl (by omega) ?_
      refine G.assignI rfl trivial rfl rfl rfl ?_
      refine G.nil ?_
      exact ⟨n - (i + 1) + 0, by omega, i + 1, _, s2, rfl, by omega, rfl, h2s, rfl, rfl, rfl, rfl, rfl, rfl⟩
  · intro hc2
    obtain rfl : i = n := by omega
    have hql : (idsN f q).length = q := idsN_len f q
    refine C.exit ?_
    refine C.seq ?_
    refine C.region ?_
    refine G.moveP rfl trivial rfl rfl rfl ?_
    refine G.call E18 rfl rfl trivial rfl rfl (tlist_spec W0 bt [] (idsN f q) [] (fun _ => []) 0 s hs (by omega)) rfl ?_
    rintro e L2 ⟨a42, c42, s42, hv42, rfl, rfl⟩
    refine G.lenSlice rfl trivial rfl rfl Try.underlying27 rfl ?_
    refine G.moveI rfl trivial rfl rfl rfl ?_
    refine G.min2 rfl trivial rfl rfl rfl rfl ?_
    refine G.bin rfl trivial rfl rfl rfl rfl rfl ?_
    refine G.moveB rfl trivial rfl rfl rfl ?_
    refine G.yes (t := 47) rfl (by rw [hql, hq]; omega) ?_
    refine G.moveI rfl ⟨_, rfl, rfl, rfl⟩ rfl rfl rfl ?_
    refine G.bin rfl ⟨_, rfl, rfl, rfl⟩ rfl rfl rfl rfl rfl ?_
    refine G.moveB rfl ⟨_, rfl, rfl, rfl⟩ rfl rfl rfl ?_
    refine G.fork (t := 50) _ rfl ?_ ?_
    · intro hg50
      refine G.skip rfl rfl rfl rfl rfl rfl ?_
      refine G.skip rfl rfl rfl rfl rfl rfl ?_
      refine G.skip rfl rfl rfl rfl rfl rfl ?_
      refine G.skip rfl rfl rfl rfl rfl rfl ?_
      refine G.skipU rfl rfl rfl rfl rfl rfl ?_
      refine G.skipU rfl rfl rfl rfl rfl rfl ?_
      refine G.skipU rfl rfl rfl rfl rfl rfl ?_
      refine G.skipU rfl rfl rfl rfl rfl rfl ?_
      refine G.skipU rfl rfl rfl rfl rfl rfl ?_
      refine G.skip rfl rfl rfl rfl rfl rfl ?_
      first | refine G.pickT rfl ⟨_, rfl, rfl, rfl⟩ rfl rfl rfl rfl ?_ | refine G.pickF rfl ⟨_, rfl, rfl, rfl⟩ rfl rfl rfl rfl ?_
      first | refine G.pickT rfl trivial rfl rfl rfl rfl ?_ | refine G.pickF rfl trivial rfl rfl rfl rfl ?_
      refine G.assignB rfl trivial rfl rfl rfl ?_
      refine G.nil ?_
      refine C.ret ?_
      -- end c2Fg50T
      exact ⟨rfl, _, Res.of (rs := [.tmp 4]) rfl rfl, rfl⟩
    · intro hg50
      refine G.moveP rfl ⟨_, rfl, rfl, rfl⟩ rfl rfl rfl ?_
      refine G.moveI rfl ⟨_, rfl, rfl, rfl⟩ rfl rfl rfl ?_
      refine G.call E15 rfl rfl ⟨_, rfl, rfl, rfl⟩ rfl rfl (FnS.perm (tend_val W0 bt (s42 :: []) (idsN f q) [] (fun _ => []) 0 s hs (by omega) (by simp) (f : Int) (idsN_mem.2 ⟨0, by omega, by simp⟩) _ rfl _ rfl) P2) rfl ?_
      rintro e L2 ⟨s3, h3s, rfl, rfl⟩
      refine G.moveB rfl ⟨_, rfl, rfl, rfl⟩ rfl rfl rfl ?_
      refine G.moveP rfl ⟨_, rfl, rfl, rfl⟩ rfl rfl rfl ?_
      refine G.moveI rfl ⟨_, rfl, rfl, rfl⟩ rfl rfl rfl ?_
      refine G.addN (j := 100) rfl ⟨_, rfl, rfl, rfl⟩ rfl rfl rfl rfl (by omega) ?_
      refine G.call E11 rfl rfl ⟨_, rfl, rfl, rfl⟩ rfl rfl (tbegin_val W0 bt _ (without (f : Int) (idsN f q)) [] _ 0 s3 h3s ((idsN_up f q).filter _) (by have := without_le (f : Int) (idsN f q); omega) ((f + 100 : Nat) : Int) 0 (by have h8 : q = 8 := (by omega); rw [h8]; exact many_end h1 h2) _ rfl) rfl ?_
      rintro e L2 ⟨s4, h4s, rfl, rfl⟩
      refine G.bin rfl ⟨_, rfl, rfl, rfl⟩ rfl rfl rfl rfl rfl ?_
      first | refine G.pickT rfl ⟨_, rfl, rfl, rfl⟩ rfl rfl rfl rfl ?_ | refine G.pickF rfl ⟨_, rfl, rfl, rfl⟩ rfl rfl rfl rfl ?_
      first | refine G.pickT rfl ⟨_, rfl, rfl, rfl⟩ rfl rfl rfl rfl ?_ | refine G.pickF rfl ⟨_, rfl, rfl, rfl⟩ rfl rfl rfl rfl ?_
      first | refine G.pickT rfl trivial rfl rfl rfl rfl ?_ | refine G.pickF rfl trivial rfl rfl rfl rfl ?_
      refine G.assignB rfl trivial rfl rfl rfl ?_
      refine G.nil ?_
      refine C.ret ?_
      -- end c2Fg50F
      exact ⟨rfl, _, Res.of (rs := [.tmp 4]) rfl rfl, rfl⟩
theorem tfree_out (n mo : Int) (h : ¬ (1 ≤ n ∧ n ≤ 7 ∧ 1 ≤ mo ∧ mo ≤ 3)) : FnS Try.prog W0 5 #[.int .i64 n, .int .i64 mo] [] (fun e _ => e = .returned (.bool true)) := by
  refine FnS.of (args := [.int .i64 n, .int .i64 mo]) Try.func5 rfl rfl ?_
  refine C.seq ?_
  refine C.region ?_
  refine G.assignB rfl trivial rfl rfl rfl ?_
  refine G.nil ?_
  refine C.seq ?_
  refine C.region ?_
  refine G.call E8 rfl rfl trivial rfl rfl (tbegun_spec W0 _) rfl ?_
  rintro e L2 ⟨rfl, rfl⟩
  refine G.assignB rfl trivial rfl rfl rfl ?_
  refine G.nil ?_
  refine C.seq ?_
  refine C.seq ?_
  refine C.region ?_
  refine G.moveB rfl trivial rfl rfl rfl ?_
  first | refine G.notD rfl trivial rfl rfl rfl ?_ | refine G.not rfl trivial rfl rfl rfl ?_
  refine G.nil ?_
  refine C.condF rfl ?_
  refine C.skip ?_
  refine C.seq ?_
  refine C.seq ?_
  refine C.region ?_
  refine G.moveI rfl trivial rfl rfl rfl ?_
  refine G.bin rfl trivial rfl rfl rfl rfl rfl ?_
  refine G.moveB rfl trivial rfl rfl rfl ?_
  refine G.fork (t := 15) _ rfl ?_ ?_
  · intro hg15
    refine G.skip rfl rfl rfl rfl rfl rfl ?_
    refine G.skip rfl rfl rfl rfl rfl rfl ?_
    first | refine G.pickT rfl trivial rfl rfl rfl rfl ?_ | refine G.pickF rfl trivial rfl rfl rfl rfl ?_
    refine G.moveB rfl trivial rfl rfl rfl ?_
    refine G.skip rfl rfl rfl rfl rfl rfl ?_
    refine G.skip rfl rfl rfl rfl rfl rfl ?_
    first | refine G.pickT rfl trivial rfl rfl rfl rfl ?_ | refine G.pickF rfl trivial rfl rfl rfl rfl ?_
    refine G.moveB rfl trivial rfl rfl rfl ?_
    refine G.skip rfl rfl rfl rfl rfl rfl ?_
    refine G.skip rfl rfl rfl rfl rfl rfl ?_
    first | refine G.pickT rfl trivial rfl rfl rfl rfl ?_ | refine G.pickF rfl trivial rfl rfl rfl rfl ?_
    refine G.nil ?_
    refine C.condT rfl ?_
    refine C.seq ?_
    refine C.region ?_
    refine G.assignB rfl trivial rfl rfl rfl ?_
    refine G.nil ?_
    refine C.ret ?_
    -- end g15T
    exact ⟨rfl, _, Res.of (rs := [.tmp 4]) rfl rfl, rfl⟩
  · intro hg15
    refine G.moveI rfl ⟨_, rfl, rfl, rfl⟩ rfl rfl rfl ?_
    refine G.bin rfl ⟨_, rfl, rfl, rfl⟩ rfl rfl rfl rfl rfl ?_
    first | refine G.pickT rfl trivial rfl rfl rfl rfl ?_ | refine G.pickF rfl trivial rfl rfl rfl rfl ?_
    refine G.moveB rfl trivial rfl rfl rfl ?_
    refine G.fork (t := 19) _ rfl ?_ ?_
    · intro hg19
      refine G.skip rfl rfl rfl rfl rfl rfl ?_
      refine G.skip rfl rfl rfl rfl rfl rfl ?_
      first | refine G.pickT rfl trivial rfl rfl rfl rfl ?_ | refine G.pickF rfl trivial rfl rfl rfl rfl ?_
      refine G.moveB rfl trivial rfl rfl rfl ?_
      refine G.skip rfl rfl rfl rfl rfl rfl ?_
      refine G.skip rfl rfl rfl rfl rfl rfl ?_
      first | refine G.pickT rfl trivial rfl rfl rfl rfl ?_ | refine G.pickF rfl trivial rfl rfl rfl rfl ?_
      refine G.nil ?_
      refine C.condT rfl ?_
      refine C.seq ?_
      refine C.region ?_
      refine G.assignB rfl trivial rfl rfl rfl ?_
      refine G.nil ?_
      refine C.ret ?_
      -- end g15Fg19T
      exact ⟨rfl, _, Res.of (rs := [.tmp 4]) rfl rfl, rfl⟩
    · intro hg19
      refine G.moveI rfl ⟨_, rfl, rfl, rfl⟩ rfl rfl rfl ?_
      refine G.bin rfl ⟨_, rfl, rfl, rfl⟩ rfl rfl rfl rfl rfl ?_
      first | refine G.pickT rfl trivial rfl rfl rfl rfl ?_ | refine G.pickF rfl trivial rfl rfl rfl rfl ?_
      refine G.moveB rfl trivial rfl rfl rfl ?_
      refine G.fork (t := 23) _ rfl ?_ ?_
      · intro hg23
        refine G.skip rfl rfl rfl rfl rfl rfl ?_
        refine G.skip rfl rfl rfl rfl rfl rfl ?_
        first | refine G.pickT rfl trivial rfl rfl rfl rfl ?_ | refine G.pickF rfl trivial rfl rfl rfl rfl ?_
        refine G.nil ?_
        refine C.condT rfl ?_
        refine C.seq ?_
        refine C.region ?_
        refine G.assignB rfl trivial rfl rfl rfl ?_
        refine G.nil ?_
        refine C.ret ?_
        -- end g15Fg19Fg23T
        exact ⟨rfl, _, Res.of (rs := [.tmp 4]) rfl rfl, rfl⟩
      · intro hg23
        refine G.moveI rfl ⟨_, rfl, rfl, rfl⟩ rfl rfl rfl ?_
        refine G.bin rfl ⟨_, rfl, rfl, rfl⟩ rfl rfl rfl rfl rfl ?_
        first | refine G.pickT rfl trivial rfl rfl rfl rfl ?_ | refine G.pickF rfl trivial rfl rfl rfl rfl ?_
        refine G.nil ?_
        refine C.yes rfl (by omega) ?_
        refine C.seq ?_
        refine C.region ?_
        refine G.assignB rfl trivial rfl rfl rfl ?_
        refine G.nil ?_
        refine C.ret ?_
        -- end g15Fg19Fg23F
        exact ⟨rfl, _, Res.of (rs := [.tmp 4]) rfl rfl, rfl⟩
theorem tfree_in (n : Nat) (mo : Int) (hn : 1 ≤ n ∧ n ≤ 7) (hmo : 1 ≤ mo ∧ mo ≤ 3) : FnS Try.prog W0 5 #[.int .i64 n, .int .i64 mo] [] (fun e _ => e = .returned (.bool true)) := by
  refine FnS.of (args := [.int .i64 (n : Int), .int .i64 mo]) Try.func5 rfl rfl ?_
  refine C.seq ?_
  refine C.region ?_
  refine G.assignB rfl trivial rfl rfl rfl ?_
  refine G.nil ?_
  refine C.seq ?_
  refine C.region ?_
  refine G.call E8 rfl rfl trivial rfl rfl (tbegun_spec W0 _) rfl ?_
  rintro e L2 ⟨rfl, rfl⟩
  refine G.assignB rfl trivial rfl rfl rfl ?_
  refine G.nil ?_
  refine C.seq ?_
  refine C.seq ?_
  refine C.region ?_
  refine G.moveB rfl trivial rfl rfl rfl ?_
  first | refine G.notD rfl trivial rfl rfl rfl ?_ | refine G.not rfl trivial rfl rfl rfl ?_
  refine G.nil ?_
  refine C.condF rfl ?_
  refine C.skip ?_
  refine C.seq ?_
  refine C.seq ?_
  refine C.region ?_
  refine G.moveI rfl trivial rfl rfl rfl ?_
  refine G.bin rfl trivial rfl rfl rfl rfl rfl ?_
  refine G.moveB rfl trivial rfl rfl rfl ?_
  refine G.no (t := 15) rfl (by omega) ?_
  refine G.moveI rfl ⟨_, rfl, rfl, rfl⟩ rfl rfl rfl ?_
  refine G.bin rfl ⟨_, rfl, rfl, rfl⟩ rfl rfl rfl rfl rfl ?_
  first | refine G.pickT rfl trivial rfl rfl rfl rfl ?_ | refine G.pickF rfl trivial rfl rfl rfl rfl ?_
  refine G.moveB rfl trivial rfl rfl rfl ?_
  refine G.no (t := 19) rfl (by omega) ?_
  refine G.moveI rfl ⟨_, rfl, rfl, rfl⟩ rfl rfl rfl ?_
  refine G.bin rfl ⟨_, rfl, rfl, rfl⟩ rfl rfl rfl rfl rfl ?_
  first | refine G.pickT rfl trivial rfl rfl rfl rfl ?_ | refine G.pickF rfl trivial rfl rfl rfl rfl ?_
  refine G.moveB rfl trivial rfl rfl rfl ?_
  refine G.no (t := 23) rfl (by omega) ?_
  refine G.moveI rfl ⟨_, rfl, rfl, rfl⟩ rfl rfl rfl ?_
  refine G.bin rfl ⟨_, rfl, rfl, rfl⟩ rfl rfl rfl rfl rfl ?_
  first | refine G.pickT rfl trivial rfl rfl rfl rfl ?_ | refine G.pickF rfl trivial rfl rfl rfl rfl ?_
  refine G.nil ?_
  refine C.no rfl (by omega) ?_
  refine C.skip ?_
  refine C.seq ?_
  refine C.region ?_
  refine G.call E9 rfl rfl trivial rfl rfl (tnew_spec W0 _) rfl ?_
  rintro e L2 ⟨bt, s1, h1s, rfl, rfl⟩
  refine G.assignP rfl trivial rfl rfl rfl ?_
  refine G.nil ?_
  refine C.seq ?_
  refine C.region ?_
  refine G.moveP rfl trivial rfl rfl rfl ?_
  refine G.call E11 rfl rfl trivial rfl rfl (tbegin_val W0 bt [] [] [] (fun _ => []) 0 s1 h1s (by decide) (by decide) 1 0 (by decide) (idsN 1 1) (by decide)) rfl ?_
  rintro e L2 ⟨s2, h2s, rfl, rfl⟩
  refine G.nil ?_
  refine C.seq ?_
  refine C.seq ?_
  refine C.region ?_
  refine G.moveP rfl trivial rfl rfl rfl ?_
  refine G.call E13 rfl rfl trivial rfl rfl (tlock_ok W0 bt [] (idsN 1 1) [] [(1, 2, kK)] (fun _ => []) 0 s2 h2s (by decide) (by decide) (by decide) 1 2 kK (by decide) (by decide) (by rfl) (by rfl)) rfl ?_
  rintro e L2 ⟨s3, h3s, rfl, rfl⟩
  refine G.bin rfl trivial rfl rfl rfl rfl rfl ?_
  refine G.nil ?_
  refine C.no rfl (by decide) ?_
  refine C.skip ?_
  refine C.seq ?_
  refine C.seq ?_
  refine C.region ?_
  refine G.assignI rfl trivial rfl rfl rfl ?_
  refine G.nil ?_
  refine C.block ?_
  refine C.loop (fun m F D' L' => ∃ (i : Nat) (g : Int → List Int) (s : Seg), m = n - i + 0 ∧ 1 ≤ i ∧ i ≤ n ∧ g 1 = [] ∧ TxIs bt (idsN 1 i) [(1, 2, kK)] g i s ∧ F 0 = .int .i64 (n : Int) ∧ F 1 = .int .i64 mo ∧ F 6 = .pointer (some ⟨bt, 0, none⟩) ∧ F 7 = .int .i64 ((i + 1 : Nat) : Int) ∧ D' = [] ∧ s :: [] = L') ⟨_, ⟨1, _, s3, rfl, Nat.le_refl _, by omega, rfl, h3s, rfl, rfl, rfl, rfl, rfl, rfl⟩⟩ ?_
  rintro m F D' L' ⟨i, g, s, rfl, hi1, hi, hg, hs, h0, h1', h6, h7, rfl, rfl⟩
  refine C.fix (d := 0) h0 ?_
  refine C.fix (d := 1) h1' ?_
  refine C.fix (d := 6) h6 ?_
  refine C.fix (d := 7) h7 ?_
  refine C.seq ?_
  refine C.seq ?_
  refine C.region ?_
  refine G.moveI rfl trivial rfl rfl rfl ?_
  refine G.moveI rfl trivial rfl rfl rfl ?_
  refine G.bin rfl trivial rfl rfl rfl rfl rfl ?_
  refine G.nil ?_
  refine C.cond _ rfl ?_ ?_
  · intro hc3
    refine C.skip ?_
    refine C.seq ?_
    refine C.block ?_
    refine C.seq ?_
    refine C.region ?_
    refine G.moveP rfl trivial rfl rfl rfl ?_
    refine G.moveI rfl trivial rfl rfl rfl ?_
    refine G.call E11 rfl rfl trivial rfl rfl (tbegin_val W0 bt [] (idsN 1 i) _ g i s hs (idsN_up 1 i) (by rw [idsN_len]; omega) ((i + 1 : Nat) : Int) 0 (by rw [show ((i + 1 : Nat) : Int) = ((1 + i : Nat) : Int) by omega, idsN_begin (by omega) (by omega) (by omega), if_neg (by omega)]) (idsN 1 (i + 1)) (by rw [if_pos rfl, show ((i + 1 : Nat) : Int) = ((1 + i : Nat) : Int) by omega, idsN_ins])) rfl ?_
    rintro e L2 ⟨s4, h4s, rfl, rfl⟩
    refine G.nil ?_
    refine C.seq ?_
    refine C.region ?_
    refine G.moveP rfl trivial rfl rfl rfl ?_
    refine G.moveI rfl trivial rfl rfl rfl ?_
    refine G.moveI rfl trivial rfl rfl rfl ?_
    refine G.call E13 rfl rfl trivial rfl rfl (tlock_wait W0 bt [] (idsN 1 (i + 1)) [(1, 2, kK)] g i s4 h4s (by rw [idsN_len]; omega) (by simp) (by omega) ((i + 1 : Nat) : Int) mo kK (idsN_mem.2 ⟨i, by omega, by omega⟩) hmo [1] (by decide) (free_on (by omega) hmo) (not_rch (sl := [1]) (by decide) (fun x hx y hy => by rw [List.mem_singleton.1 hx, hg] at hy; cases hy) (by simp; omega))) rfl ?_
    rintro e L2 ⟨s5, h5s, rfl, rfl⟩
    refine G.bin rfl trivial rfl rfl rfl rfl rfl ?_
    refine G.nil ?_
    refine C.no rfl (by decide) ?_
    refine C.skip ?_
    refine C.region ?_
    refine G.moveI rfl trivial rfl rfl rfl ?_
    refine G.addN (j := 1) rfl trivial rfl rfl rfl rfl (by omega) ?_
    refine G.assignI rfl trivial rfl rfl rfl ?_
    refine G.nil ?_
    exact ⟨n - (i + 1) + 0, by omega, i + 1, _, s5, rfl, by omega, by omega, by show (if (1 : Int) = ((i + 1 : Nat) : Int) then _ else g 1) = []; rw [if_neg (by omega), hg], h5s, rfl, rfl, rfl, rfl, rfl, rfl⟩
  · intro hc3
    obtain rfl : i = n := by omega
    refine C.exit ?_
    refine C.seq ?_
    refine C.region ?_
    refine G.moveP rfl trivial rfl rfl rfl ?_
    refine G.call E15 rfl rfl trivial rfl rfl (tend_val W0 bt [] (idsN 1 i) [(1, 2, kK)] g i s hs (by rw [idsN_len]; omega) (by simp) 1 (idsN_mem.2 ⟨0, by omega, by simp⟩) _ rfl [] (by rfl)) rfl ?_
    rintro e L2 ⟨s6, h6s, rfl, rfl⟩
    refine G.nil ?_
    refine C.seq ?_
    refine C.seq ?_
    refine C.region ?_
    refine G.assignI rfl trivial rfl rfl rfl ?_
    refine G.nil ?_
    refine C.block ?_
    refine C.loop (fun m F D' L' => ∃ (j : Nat) (ls : List One) (g : Int → List Int) (s : Seg), m = i - j + 0 ∧ 1 ≤ j ∧ j ≤ i ∧ ls.length ≤ j ∧ (∀ y ∈ ls, y.1 ≤ j) ∧ (mo ≠ 2 → ∀ y ∈ ls, y.2.1 = mo) ∧ (mo = 2 → ls = if j = 1 then [] else [((2 : Int), (2 : Int), kK)]) ∧ TxIs bt (without 1 (idsN 1 i)) ls g (i + j) s ∧ F 0 = .int .i64 (i : Int) ∧ F 1 = .int .i64 mo ∧ F 6 = .pointer (some ⟨bt, 0, none⟩) ∧ F 8 = .int .i64 ((j + 1 : Nat) : Int) ∧ D' = [] ∧ s :: [] = L') ⟨_, ⟨1, [], _, s6, rfl, Nat.le_refl _, by omega, by simp, by simp, by simp, fun _ => rfl, h6s.upto (by omega), rfl, rfl, rfl, rfl, rfl, rfl⟩⟩ ?_
    rintro m F D' L' ⟨j, ls, g2, s, rfl, hj1, hj, hll, hle, hm1, hm2, hs2, h0, h1', h6, h8, rfl, rfl⟩
    refine C.fix (d := 0) h0 ?_
    refine C.fix (d := 1) h1' ?_
    refine C.fix (d := 6) h6 ?_
    refine C.fix (d := 8) h8 ?_
    refine C.seq ?_
    refine C.seq ?_
    refine C.region ?_
    refine G.moveI rfl trivial rfl rfl rfl ?_
    refine G.moveI rfl trivial rfl rfl rfl ?_
    refine G.bin rfl trivial rfl rfl rfl rfl rfl ?_
    refine G.nil ?_
    refine C.cond _ rfl ?_ ?_
    · intro hc5
      refine C.skip ?_
      refine C.seq ?_
      refine C.block ?_
      refine C.seq ?_
      refine C.region ?_
      refine G.moveP rfl trivial rfl rfl rfl ?_
      refine G.moveI rfl trivial rfl rfl rfl ?_
      refine G.moveI rfl trivial rfl rfl rfl ?_
      refine G.call E13 rfl rfl trivial rfl rfl (tlock_any W0 bt [] (without 1 (idsN 1 i)) ls g2 (i + j) s hs2 (by have := without_le 1 (idsN 1 i); rw [idsN_len] at this; omega) (by omega) (by omega) ((j + 1 : Nat) : Int) mo kK (List.mem_filter.2 ⟨idsN_mem.2 ⟨j, by omega, by omega⟩, by simp; omega⟩) hmo) rfl ?_
      rintro e L2 ⟨r, g3, s7, hr, h7s, rfl, rfl⟩
      obtain ⟨hr2, hl2, hle2, hm12, hm22⟩ := free_step hmo hj1 hll hle hm1 hm2 hr
      refine G.assignI rfl trivial rfl rfl rfl ?_
      refine G.nil ?_
      refine C.seq ?_
      refine C.region ?_
      refine G.moveI rfl trivial rfl rfl rfl ?_
      refine G.bin rfl trivial rfl rfl rfl rfl rfl ?_
      refine G.moveI rfl trivial rfl rfl rfl ?_
      refine G.bin rfl trivial rfl rfl rfl rfl rfl ?_
      refine G.moveB rfl trivial rfl rfl rfl ?_
      refine G.fork (t := 61) _ rfl ?_ ?_
      · intro hg61
        refine G.skip rfl rfl rfl rfl rfl rfl ?_
        refine G.skip rfl rfl rfl rfl rfl rfl ?_
        first | refine G.pickT rfl trivial rfl rfl rfl rfl ?_ | refine G.pickF rfl trivial rfl rfl rfl rfl ?_
        refine G.boolNe rfl trivial rfl rfl Try.underlying4 rfl rfl ?_
        have hr3 : r = 0 := hr2.2 (.inl hg61)
        refine G.fix (d := 65) (v := .bool false) (by show Value.bool _ = _; simp [hr3]) ?_
        refine G.nil ?_
        refine C.condF rfl ?_
        refine C.skip ?_
        refine C.region ?_
        refine G.moveI rfl trivial rfl rfl rfl ?_
        refine G.addN (j := 1) rfl trivial rfl rfl rfl rfl (by omega) ?_
        refine G.assignI rfl trivial rfl rfl rfl ?_
        refine G.nil ?_
        exact ⟨i - (j + 1) + 0, by omega, j + 1, _, g3, s7, rfl, by omega, by omega, hl2, hle2, hm12, hm22, h7s.upto (by omega), rfl, rfl, rfl, rfl, rfl, rfl⟩
      · intro hg61
        refine G.moveI rfl ⟨_, rfl, rfl, rfl⟩ rfl rfl rfl ?_
        refine G.bin rfl ⟨_, rfl, rfl, rfl⟩ rfl rfl rfl rfl rfl ?_
        first | refine G.pickT rfl trivial rfl rfl rfl rfl ?_ | refine G.pickF rfl trivial rfl rfl rfl rfl ?_
        refine G.boolNe rfl trivial rfl rfl Try.underlying4 rfl rfl ?_
        have hr3 : (r = 0) ↔ ¬ mo = 2 := hr2.trans ⟨fun h => h.resolve_left hg61, .inr⟩
        refine G.fix (d := 65) (v := .bool false) (by show Value.bool _ = _; simp [hr3]) ?_
        refine G.nil ?_
        refine C.condF rfl ?_
        refine C.skip ?_
        refine C.region ?_
        refine G.moveI rfl trivial rfl rfl rfl ?_
        refine G.addN (j := 1) rfl trivial rfl rfl rfl rfl (by omega) ?_
        refine G.assignI rfl trivial rfl rfl rfl ?_
        refine G.nil ?_
        exact ⟨i - (j + 1) + 0, by omega, j + 1, _, g3, s7, rfl, by omega, by omega, hl2, hle2, hm12, hm22, h7s.upto (by omega), rfl, rfl, rfl, rfl, rfl, rfl⟩
    · intro hc5
      refine C.exit ?_
      refine C.seq ?_
      refine C.region ?_
      refine G.assignB rfl trivial rfl rfl rfl ?_
      refine G.nil ?_
      refine C.ret ?_
      -- end c3Fc5F
      exact ⟨rfl, _, Res.of (rs := [.tmp 4]) rfl rfl, rfl⟩
end laws
end Go.Proofs.Ytomiidlbfcfpiaa
