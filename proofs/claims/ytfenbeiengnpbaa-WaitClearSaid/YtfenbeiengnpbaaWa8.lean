/-
  Waits: WaitChain, WaitNever walked.
-/
import Derived.Test.YtfenbeiengnpbaaWa7
namespace Go.Proofs.Ytfenbeiengnpbaa
open Go Go.SL Go.RowKit Go.Sort

/-- in a row -/
def gch (i : Nat) : Int → List Int := fun k => if 1 ≤ k ∧ k < (i : Int) then [k + 1] else []
theorem gch_succ {i : Nat} (h : 1 ≤ i) : setG (gch i) (i : Int) (insAll [(i : Int) + 1]) = gch (i + 1) := by
  funext k
  unfold setG gch
  by_cases h1 : k = (i : Int)
  · subst h1
    rw [if_pos rfl, if_pos (by omega)]; rfl
  · rw [if_neg h1]
    by_cases h2 : 1 ≤ k ∧ k < (i : Int)
    · rw [if_pos h2, if_pos (by omega)]
    · rw [if_neg h2, if_neg (by omega)]
theorem gch_free (i : Nat) : ¬ Rch (gch i) [(i : Int) + 1] (i : Int) := not_rch (sl := [(i : Int) + 1]) (by simp) (fun x hx y hy => by
  rw [List.mem_singleton.1 hx] at hy
  unfold gch at hy
  rw [if_neg (by omega)] at hy
  cases hy) (by simp; omega)
theorem gch_low {i : Nat} {b y : Int} (h : Rch (gch i) [b] y) : b ≤ y := by
  induction h with
  | base h => rw [List.mem_singleton.1 h]; exact Int.le_refl _
  | step _ h2 ih =>
    unfold gch at h2
    split at h2
    · rw [List.mem_singleton.1 h2]; omega
    · cases h2
theorem gch_up {i : Nat} {b : Int} (hb : 1 ≤ b) : ∀ j : Nat, b + j ≤ (i : Int) → Rch (gch i) [b] (b + j)
  | 0, _ => .base (by simp)
  | j + 1, h => by
    refine .step (gch_up hb j (by omega)) ?_
    unfold gch
    rw [if_pos (by omega), List.mem_singleton]
    omega
theorem WtIs.lens {bw N : Nat} {g : Int → List Int} {s1 s2 s3 : Seg} (h : WtIs bw g N s1 s2 s3) (t : Int) : (g t).length ≤ 1000 := by
  obtain ⟨bm, en, ck, _, _, _, h4, h5, _, h7⟩ := h
  rw [← h5 t]
  rcases mget_wes h4.keys t with ⟨h1, _⟩ | ⟨e, he, _, h2, _⟩
  · rw [h1]; simp
  · rw [h2]; exact h7 e he
/-- none waits for itself -/
def Acyc (g : Int → List Int) : Prop := ∀ u, ¬ Rch g (g u) u
theorem rch_set {g : Int → List Int} {t : Int} {xs on : List Int} (hno : ¬ Rch g xs t) {y : Int} (h : Rch (setG g t (insAll xs)) on y) : Rch g on y ∨ (Rch g on t ∧ Rch g xs y) := by
  induction h with
  | base h => exact .inl (.base h)
  | @step x y _ h2 ih =>
    unfold setG at h2
    split at h2
    · rename_i e
      subst e
      have hy : y ∈ xs := (insAll_mem _ xs rfl y).1 h2
      rcases ih with h | ⟨_, h⟩
      · exact .inr ⟨h, .base hy⟩
      · exact absurd h hno
    · rcases ih with h | ⟨h, h3⟩
      · exact .inl (.step h h2)
      · exact .inr ⟨h, .step h3 h2⟩
theorem Acyc.set {g : Int → List Int} (h : Acyc g) {t : Int} {xs : List Int} (hno : ¬ Rch g xs t) : Acyc (setG g t (insAll xs)) := by
  intro u hu
  have h1 : ∀ y, Rch g (insAll xs) y ↔ Rch g xs y := fun y => Rch.congr (fun z => insAll_mem _ xs rfl z) fun _ _ => Iff.rfl
  by_cases e : u = t
  · subst e
    have hu' : Rch (setG g u (insAll xs)) (insAll xs) u := by
      have : setG g u (insAll xs) u = insAll xs := if_pos rfl
      rwa [this] at hu
    rcases rch_set hno hu' with h2 | ⟨_, h2⟩
    · exact hno ((h1 _).1 h2)
    · exact hno h2
  · have hu' : Rch (setG g t (insAll xs)) (g u) u := by
      have : setG g t (insAll xs) u = g u := if_neg e
      rwa [this] at hu
    rcases rch_set hno hu' with h2 | ⟨h2, h3⟩
    · exact h u h2
    · exact hno (h3.trans h2)
section laws
variable (W0 : World)
theorem chain_out (n a b : Int) (h : ¬ (2 ≤ n ∧ n ≤ 30 ∧ 1 ≤ a ∧ a ≤ n ∧ 1 ≤ b ∧ b ≤ n)) : FnS Try.prog W0 5 #[.int .i64 n, .int .i64 a, .int .i64 b] [] (fun e _ => e = .returned (.bool true)) := by
  refine FnS.of (args := [.int .i64 n, .int .i64 a, .int .i64 b]) Try.func5 rfl rfl ?_
  refine C.seq ?_
  refine C.region ?_
  refine G.assignB rfl trivial rfl rfl rfl ?_
  refine G.nil ?_
  refine C.seq ?_
  refine C.region ?_
  refine G.call E8 rfl rfl trivial rfl rfl (wbegun_spec W0 _) rfl ?_
  rintro e L2 ⟨rfl, rfl⟩
  refine G.assignB rfl trivial rfl rfl rfl ?_
  refine G.nil ?_
  refine C.seq ?_
  refine C.seq ?_
  refine C.region ?_
  refine G.moveB rfl trivial rfl rfl rfl ?_
  first | refine G.notD rfl trivial rfl rfl rfl ?_ | refine G.not rfl trivial rfl rfl rfl ?_
  refine G.nil ?_
  refine C.condF rfl ?_
  refine C.skip ?_
  refine C.seq ?_
  refine C.seq ?_
  refine C.region ?_
  refine G.moveI rfl trivial rfl rfl rfl ?_
  refine G.bin rfl trivial rfl rfl rfl rfl rfl ?_
  refine G.moveB rfl trivial rfl rfl rfl ?_
  refine G.fork (t := 15) _ rfl ?_ ?_
  · intro hg15
    refine G.skip rfl rfl rfl rfl rfl rfl ?_
    refine G.skip rfl rfl rfl rfl rfl rfl ?_
    first | refine G.pickT rfl trivial rfl rfl rfl rfl ?_ | refine G.pickF rfl trivial rfl rfl rfl rfl ?_
    refine G.moveB rfl trivial rfl rfl rfl ?_
    refine G.skip rfl rfl rfl rfl rfl rfl ?_
    refine G.skip rfl rfl rfl rfl rfl rfl ?_
    first | refine G.pickT rfl trivial rfl rfl rfl rfl ?_ | refine G.pickF rfl trivial rfl rfl rfl rfl ?_
    refine G.moveB rfl trivial rfl rfl rfl ?_
    refine G.skip rfl rfl rfl rfl rfl rfl ?_
    refine G.skip rfl rfl rfl rfl rfl rfl ?_
    refine G.skip rfl rfl rfl rfl rfl rfl ?_
    first | refine G.pickT rfl trivial rfl rfl rfl rfl ?_ | refine G.pickF rfl trivial rfl rfl rfl rfl ?_
    refine G.moveB rfl trivial rfl rfl rfl ?_
    refine G.skip rfl rfl rfl rfl rfl rfl ?_
    refine G.skip rfl rfl rfl rfl rfl rfl ?_
    first | refine G.pickT rfl trivial rfl rfl rfl rfl ?_ | refine G.pickF rfl trivial rfl rfl rfl rfl ?_
    refine G.moveB rfl trivial rfl rfl rfl ?_
    refine G.skip rfl rfl rfl rfl rfl rfl ?_
    refine G.skip rfl rfl rfl rfl rfl rfl ?_
    refine G.skip rfl rfl rfl rfl rfl rfl ?_
    first | refine G.pickT rfl trivial rfl rfl rfl rfl ?_ | refine G.pickF rfl trivial rfl rfl rfl rfl ?_
    refine G.nil ?_
    refine C.condT rfl ?_
    refine C.seq ?_
    refine C.region ?_
    refine G.assignB rfl trivial rfl rfl rfl ?_
    refine G.nil ?_
    refine C.ret ?_
    -- end g15T
    exact ⟨rfl, _, Res.of (rs := [.tmp 6]) rfl rfl, rfl⟩
  · intro hg15
    refine G.moveI rfl ⟨_, rfl, rfl, rfl⟩ rfl rfl rfl ?_
    refine G.bin rfl ⟨_, rfl, rfl, rfl⟩ rfl rfl rfl rfl rfl ?_
    first | refine G.pickT rfl trivial rfl rfl rfl rfl ?_ | refine G.pickF rfl trivial rfl rfl rfl rfl ?_
    refine G.moveB rfl trivial rfl rfl rfl ?_
    refine G.fork (t := 19) _ rfl ?_ ?_
    · intro hg19
      refine G.skip rfl rfl rfl rfl rfl rfl ?_
      refine G.skip rfl rfl rfl rfl rfl rfl ?_
      first | refine G.pickT rfl trivial rfl rfl rfl rfl ?_ | refine G.pickF rfl trivial rfl rfl rfl rfl ?_
      refine G.moveB rfl trivial rfl rfl rfl ?_
      refine G.skip rfl rfl rfl rfl rfl rfl ?_
      refine G.skip rfl rfl rfl rfl rfl rfl ?_
      refine G.skip rfl rfl rfl rfl rfl rfl ?_
      first | refine G.pickT rfl trivial rfl rfl rfl rfl ?_ | refine G.pickF rfl trivial rfl rfl rfl rfl ?_
      refine G.moveB rfl trivial rfl rfl rfl ?_
      refine G.skip rfl rfl rfl rfl rfl rfl ?_
      refine G.skip rfl rfl rfl rfl rfl rfl ?_
      first | refine G.pickT rfl trivial rfl rfl rfl rfl ?_ | refine G.pickF rfl trivial rfl rfl rfl rfl ?_
      refine G.moveB rfl trivial rfl rfl rfl ?_
      refine G.skip rfl rfl rfl rfl rfl rfl ?_
      refine G.skip rfl rfl rfl rfl rfl rfl ?_
      refine G.skip rfl rfl rfl rfl rfl rfl ?_
      first | refine G.pickT rfl trivial rfl rfl rfl rfl ?_ | refine G.pickF rfl trivial rfl rfl rfl rfl ?_
      refine G.nil ?_
      refine C.condT rfl ?_
      refine C.seq ?_
      refine C.region ?_
      refine G.assignB rfl trivial rfl rfl rfl ?_
      refine G.nil ?_
      refine C.ret ?_
      -- end g15Fg19T
      exact ⟨rfl, _, Res.of (rs := [.tmp 6]) rfl rfl, rfl⟩
    · intro hg19
      refine G.moveI rfl ⟨_, rfl, rfl, rfl⟩ rfl rfl rfl ?_
      refine G.bin rfl ⟨_, rfl, rfl, rfl⟩ rfl rfl rfl rfl rfl ?_
      first | refine G.pickT rfl trivial rfl rfl rfl rfl ?_ | refine G.pickF rfl trivial rfl rfl rfl rfl ?_
      refine G.moveB rfl trivial rfl rfl rfl ?_
      refine G.fork (t := 23) _ rfl ?_ ?_
      · intro hg23
        refine G.skip rfl rfl rfl rfl rfl rfl ?_
        refine G.skip rfl rfl rfl rfl rfl rfl ?_
        refine G.skip rfl rfl rfl rfl rfl rfl ?_
        first | refine G.pickT rfl trivial rfl rfl rfl rfl ?_ | refine G.pickF rfl trivial rfl rfl rfl rfl ?_
        refine G.moveB rfl trivial rfl rfl rfl ?_
        refine G.skip rfl rfl rfl rfl rfl rfl ?_
        refine G.skip rfl rfl rfl rfl rfl rfl ?_
        first | refine G.pickT rfl trivial rfl rfl rfl rfl ?_ | refine G.pickF rfl trivial rfl rfl rfl rfl ?_
        refine G.moveB rfl trivial rfl rfl rfl ?_
        refine G.skip rfl rfl rfl rfl rfl rfl ?_
        refine G.skip rfl rfl rfl rfl rfl rfl ?_
        refine G.skip rfl rfl rfl rfl rfl rfl ?_
        first | refine G.pickT rfl trivial rfl rfl rfl rfl ?_ | refine G.pickF rfl trivial rfl rfl rfl rfl ?_
        refine G.nil ?_
        refine C.condT rfl ?_
        refine C.seq ?_
        refine C.region ?_
        refine G.assignB rfl trivial rfl rfl rfl ?_
        refine G.nil ?_
        refine C.ret ?_
        -- end g15Fg19Fg23T
        exact ⟨rfl, _, Res.of (rs := [.tmp 6]) rfl rfl, rfl⟩
      · intro hg23
        refine G.moveI rfl ⟨_, rfl, rfl, rfl⟩ rfl rfl rfl ?_
        refine G.moveI rfl ⟨_, rfl, rfl, rfl⟩ rfl rfl rfl ?_
        refine G.bin rfl ⟨_, rfl, rfl, rfl⟩ rfl rfl rfl rfl rfl ?_
        first | refine G.pickT rfl trivial rfl rfl rfl rfl ?_ | refine G.pickF rfl trivial rfl rfl rfl rfl ?_
        refine G.moveB rfl trivial rfl rfl rfl ?_
        refine G.fork (t := 28) _ rfl ?_ ?_
        · intro hg28
          refine G.skip rfl rfl rfl rfl rfl rfl ?_
          refine G.skip rfl rfl rfl rfl rfl rfl ?_
          first | refine G.pickT rfl trivial rfl rfl rfl rfl ?_ | refine G.pickF rfl trivial rfl rfl rfl rfl ?_
          refine G.moveB rfl trivial rfl rfl rfl ?_
          refine G.skip rfl rfl rfl rfl rfl rfl ?_
          refine G.skip rfl rfl rfl rfl rfl rfl ?_
          refine G.skip rfl rfl rfl rfl rfl rfl ?_
          first | refine G.pickT rfl trivial rfl rfl rfl rfl ?_ | refine G.pickF rfl trivial rfl rfl rfl rfl ?_
          refine G.nil ?_
          refine C.condT rfl ?_
          refine C.seq ?_
          refine C.region ?_
          refine G.assignB rfl trivial rfl rfl rfl ?_
          refine G.nil ?_
          refine C.ret ?_
          -- end g15Fg19Fg23Fg28T
          exact ⟨rfl, _, Res.of (rs := [.tmp 6]) rfl rfl, rfl⟩
        · intro hg28
          refine G.moveI rfl ⟨_, rfl, rfl, rfl⟩ rfl rfl rfl ?_
          refine G.bin rfl ⟨_, rfl, rfl, rfl⟩ rfl rfl rfl rfl rfl ?_
          first | refine G.pickT rfl trivial rfl rfl rfl rfl ?_ | refine G.pickF rfl trivial rfl rfl rfl rfl ?_
          refine G.moveB rfl trivial rfl rfl rfl ?_
          refine G.fork (t := 32) _ rfl ?_ ?_
          · intro hg32
            refine G.skip rfl rfl rfl rfl rfl rfl ?_
            refine G.skip rfl rfl rfl rfl rfl rfl ?_
            refine G.skip rfl rfl rfl rfl rfl rfl ?_
            first | refine G.pickT rfl trivial rfl rfl rfl rfl ?_ | refine G.pickF rfl trivial rfl rfl rfl rfl ?_
            refine G.nil ?_
            refine C.condT rfl ?_
            refine C.seq ?_
            refine C.region ?_
            refine G.assignB rfl trivial rfl rfl rfl ?_
            refine G.nil ?_
            refine C.ret ?_
            -- end g15Fg19Fg23Fg28Fg32T
            exact ⟨rfl, _, Res.of (rs := [.tmp 6]) rfl rfl, rfl⟩
          · intro hg32
            refine G.moveI rfl ⟨_, rfl, rfl, rfl⟩ rfl rfl rfl ?_
            refine G.moveI rfl ⟨_, rfl, rfl, rfl⟩ rfl rfl rfl ?_
            refine G.bin rfl ⟨_, rfl, rfl, rfl⟩ rfl rfl rfl rfl rfl ?_
            first | refine G.pickT rfl trivial rfl rfl rfl rfl ?_ | refine G.pickF rfl trivial rfl rfl rfl rfl ?_
            refine G.nil ?_
            refine C.yes rfl (by omega) ?_
            refine C.seq ?_
            refine C.region ?_
            refine G.assignB rfl trivial rfl rfl rfl ?_
            refine G.nil ?_
            refine C.ret ?_
            -- end g15Fg19Fg23Fg28Fg32F
            exact ⟨rfl, _, Res.of (rs := [.tmp 6]) rfl rfl, rfl⟩
theorem chain_in (n a b : Nat) (h2 : 2 ≤ n) (h30 : n ≤ 30) (ha : 1 ≤ a ∧ a ≤ n) (hb : 1 ≤ b ∧ b ≤ n) : FnS Try.prog W0 5 #[.int .i64 n, .int .i64 a, .int .i64 b] [] (fun e _ => e = .returned (.bool true)) := by
  refine FnS.of (args := [.int .i64 (n : Int), .int .i64 (a : Int), .int .i64 (b : Int)]) Try.func5 rfl rfl ?_
  refine C.seq ?_
  refine C.region ?_
  refine G.assignB rfl trivial rfl rfl rfl ?_
  refine G.nil ?_
  refine C.seq ?_
  refine C.region ?_
  refine G.call E8 rfl rfl trivial rfl rfl (wbegun_spec W0 _) rfl ?_
  rintro e L2 ⟨rfl, rfl⟩
  refine G.assignB rfl trivial rfl rfl rfl ?_
  refine G.nil ?_
  refine C.seq ?_
  refine C.seq ?_
  refine C.region ?_
  refine G.moveB rfl trivial rfl rfl rfl ?_
  first | refine G.notD rfl trivial rfl rfl rfl ?_ | refine G.not rfl trivial rfl rfl rfl ?_
  refine G.nil ?_
  refine C.condF rfl ?_
  refine C.skip ?_
  refine C.seq ?_
  refine C.seq ?_
  refine C.region ?_
  refine G.moveI rfl trivial rfl rfl rfl ?_
  refine G.bin rfl trivial rfl rfl rfl rfl rfl ?_
  refine G.moveB rfl trivial rfl rfl rfl ?_
  refine G.no (t := 15) rfl (by omega) ?_
  refine G.moveI rfl ⟨_, rfl, rfl, rfl⟩ rfl rfl rfl ?_
  refine G.bin rfl ⟨_, rfl, rfl, rfl⟩ rfl rfl rfl rfl rfl ?_
  first | refine G.pickT rfl trivial rfl rfl rfl rfl ?_ | refine G.pickF rfl trivial rfl rfl rfl rfl ?_
  refine G.moveB rfl trivial rfl rfl rfl ?_
  refine G.no (t := 19) rfl (by omega) ?_
  refine G.moveI rfl ⟨_, rfl, rfl, rfl⟩ rfl rfl rfl ?_
  refine G.bin rfl ⟨_, rfl, rfl, rfl⟩ rfl rfl rfl rfl rfl ?_
  first | refine G.pickT rfl trivial rfl rfl rfl rfl ?_ | refine G.pickF rfl trivial rfl rfl rfl rfl ?_
  refine G.moveB rfl trivial rfl rfl rfl ?_
  refine G.no (t := 23) rfl (by omega) ?_
  refine G.moveI rfl ⟨_, rfl, rfl, rfl⟩ rfl rfl rfl ?_
  refine G.moveI rfl ⟨_, rfl, rfl, rfl⟩ rfl rfl rfl ?_
  refine G.bin rfl ⟨_, rfl, rfl, rfl⟩ rfl rfl rfl rfl rfl ?_
  first | refine G.pickT rfl trivial rfl rfl rfl rfl ?_ | refine G.pickF rfl trivial rfl rfl rfl rfl ?_
  refine G.moveB rfl trivial rfl rfl rfl ?_
  refine G.no (t := 28) rfl (by omega) ?_
  refine G.moveI rfl ⟨_, rfl, rfl, rfl⟩ rfl rfl rfl ?_
  refine G.bin rfl ⟨_, rfl, rfl, rfl⟩ rfl rfl rfl rfl rfl ?_
  first | refine G.pickT rfl trivial rfl rfl rfl rfl ?_ | refine G.pickF rfl trivial rfl rfl rfl rfl ?_
  refine G.moveB rfl trivial rfl rfl rfl ?_
  refine G.no (t := 32) rfl (by omega) ?_
  refine G.moveI rfl ⟨_, rfl, rfl, rfl⟩ rfl rfl rfl ?_
  refine G.moveI rfl ⟨_, rfl, rfl, rfl⟩ rfl rfl rfl ?_
  refine G.bin rfl ⟨_, rfl, rfl, rfl⟩ rfl rfl rfl rfl rfl ?_
  first | refine G.pickT rfl trivial rfl rfl rfl rfl ?_ | refine G.pickF rfl trivial rfl rfl rfl rfl ?_
  refine G.nil ?_
  refine C.no rfl (by omega) ?_
  refine C.skip ?_
  refine C.seq ?_
  refine C.region ?_
  refine G.call E9 rfl rfl trivial rfl rfl (wnew_spec W0 []) rfl ?_
  rintro e L2 ⟨bw, s1, s2, s3, h1, rfl, rfl⟩
  refine G.assignP rfl trivial rfl rfl rfl ?_
  refine G.nil ?_
  refine C.seq ?_
  refine C.seq ?_
  refine C.region ?_
  refine G.assignI rfl trivial rfl rfl rfl ?_
  refine G.nil ?_
  refine C.block ?_
  refine C.loop (fun m F D' L' => ∃ (i : Nat) (s1 s2 s3 : Seg), m = n - i + 0 ∧ 1 ≤ i ∧ i ≤ n ∧ WtIs bw (gch i) i s1 s2 s3 ∧ F 0 = .int .i64 (n : Int) ∧ F 1 = .int .i64 (a : Int) ∧ F 2 = .int .i64 (b : Int) ∧ F 8 = .pointer (some ⟨bw, 0, none⟩) ∧ F 9 = .int .i64 (i : Int) ∧ D' = [] ∧ s1 :: s2 :: s3 :: [] = L') ⟨_, ⟨1, s1, s2, s3, rfl, by omega, by omega, by rw [show gch 1 = g0 from funext fun k => if_neg (by omega)]; exact h1.more, rfl, rfl, rfl, rfl, rfl, rfl, rfl⟩⟩ ?_
  rintro m F D' L' ⟨i, s1, s2, s3, rfl, hi1, hi, hw, h0, h1, h2', h8, h9, rfl, rfl⟩
  refine C.fix (d := 0) h0 ?_
  refine C.fix (d := 1) h1 ?_
  refine C.fix (d := 2) h2' ?_
  refine C.fix (d := 8) h8 ?_
  refine C.fix (d := 9) h9 ?_
  refine C.seq ?_
  refine C.seq ?_
  refine C.region ?_
  refine G.moveI rfl trivial rfl rfl rfl ?_
  refine G.moveI rfl trivial rfl rfl rfl ?_
  refine G.bin rfl trivial rfl rfl rfl rfl rfl ?_
  refine G.nil ?_
  refine C.cond _ rfl ?_ ?_
  · intro hc2
    refine C.skip ?_
    refine C.seq ?_
    refine C.block ?_
    refine C.seq ?_
    refine C.region ?_
    refine G.moveP rfl trivial rfl rfl rfl ?_
    refine G.moveI rfl trivial rfl rfl rfl ?_
    refine G.moveI rfl trivial rfl rfl rfl ?_
    refine G.addN (j := 1) rfl trivial rfl rfl rfl rfl (by omega) ?_
    refine G.buildSliceL (cs := [.int .i64 ((i : Int) + 1)]) (zs := [(.int .i64 0)]) rfl trivial rfl rfl Try.underlying30 I2 rfl (by kernel_rfl) rfl rfl ?_
    intro b47
    refine G.call E10 rfl rfl trivial rfl rfl (FnS.perm (set_yes W0 ([(b47, .row [.int .i64 ((i : Int) + 1)] 2 1)] :: []) bw (gch i) i s1 s2 s3 hw (by omega) i (some ⟨b47, 0, none⟩) 1 [(i : Int) + 1] (by simp) (Rd.row0 (.next (.next (.next .here)))) (gch_free i)) P4.symm) rfl ?_
    rintro e L2 ⟨s4, s5, s6, hw2, rfl, rfl⟩
    rw [gch_succ hi1] at hw2
    refine G.less (L' := s4 :: s5 :: s6 :: []) (fun _ h => h.fewer (by simp)) ?_
    first | refine G.notD rfl trivial rfl rfl rfl ?_ | refine G.not rfl trivial rfl rfl rfl ?_
    refine G.nil ?_
    refine C.condF rfl ?_
    refine C.skip ?_
    refine C.region ?_
    refine G.moveI rfl trivial rfl rfl rfl ?_
    refine G.addN (j := 1) rfl trivial rfl rfl rfl rfl (by omega) ?_
    refine G.assignI rfl trivial rfl rfl rfl ?_
    refine G.nil ?_
    exact ⟨n - (i + 1) + 0, by omega, i + 1, s4, s5, s6, rfl, by omega, by omega, hw2, rfl, rfl, rfl, rfl, rfl, rfl, rfl⟩
  · intro hc2
    obtain rfl : i = n := by omega
    refine C.exit ?_
    refine C.seq ?_
    refine C.region ?_
    refine G.moveP rfl trivial rfl rfl rfl ?_
    refine G.moveI rfl trivial rfl rfl rfl ?_
    refine G.moveI rfl trivial rfl rfl rfl ?_
    refine G.buildSliceL (cs := [.int .i64 (b : Int)]) (zs := [(.int .i64 0)]) rfl trivial rfl rfl Try.underlying30 I2 rfl (by kernel_rfl) rfl rfl ?_
    intro b53
    refine G.call E14 rfl rfl trivial rfl rfl (FnS.perm (round_val W0 ([(b53, .row [.int .i64 (b : Int)] 2 1)] :: []) bw (gch i) i s1 s2 s3 hw (by omega) a (some ⟨b53, 0, none⟩) 1 [(b : Int)] (by simp) (Rd.row0 (.next (.next (.next .here)))) (decide ((b : Int) ≤ a)) ⟨fun h => by have h3 := of_decide_eq_true h; have h4 := gch_up (i := i) (b := (b : Int)) (by omega) (a - b) (by omega); rwa [show (b : Int) + ((a - b : Nat) : Int) = (a : Int) by omega] at h4, fun h => decide_eq_true (gch_low h)⟩) P4.symm) rfl ?_
    rintro e L2 ⟨rfl, rfl⟩
    refine G.moveI rfl trivial rfl rfl rfl ?_
    refine G.moveI rfl trivial rfl rfl rfl ?_
    refine G.bin rfl trivial rfl rfl rfl rfl rfl ?_
    refine G.boolEq rfl trivial rfl rfl Try.underlying4 rfl rfl ?_
    refine G.assignB rfl trivial rfl rfl rfl ?_
    refine G.nil ?_
    refine C.ret ?_
    -- end c2F
    exact ⟨rfl, _, Res.of (rs := [.tmp 6]) rfl rfl, by show Ending.returned (Value.bool _) = _; simp⟩
theorem never_walk (a : Option Addr) (len cap : Nat) (ops : List WOp) (h : WOps W0 a len cap ops) : FnS Try.prog W0 4 #[.slice a len cap] [] (fun e _ => e = .returned (.bool true)) := by
  obtain ⟨rfl, hlc, hcap, hr, hwf⟩ := h
  have hmax : maxLen ≤ 9223372036854775807 := by decide
  refine FnS.of (args := [.slice a ops.length cap]) Try.func4 rfl rfl ?_
  refine C.seq ?_
  refine C.region ?_
  refine G.assignB rfl trivial rfl rfl rfl ?_
  refine G.nil ?_
  refine C.seq ?_
  refine C.region ?_
  refine G.call E8 rfl rfl trivial rfl rfl (wbegun_spec W0 _) rfl ?_
  rintro e L2 ⟨rfl, rfl⟩
  refine G.assignB rfl trivial rfl rfl rfl ?_
  refine G.nil ?_
  refine C.seq ?_
  refine C.seq ?_
  refine C.region ?_
  refine G.moveB rfl trivial rfl rfl rfl ?_
  first | refine G.notD rfl trivial rfl rfl rfl ?_ | refine G.not rfl trivial rfl rfl rfl ?_
  refine G.nil ?_
  refine C.condF rfl ?_
  refine C.skip ?_
  refine C.seq ?_
  refine C.region ?_
  refine G.call E9 rfl rfl trivial rfl rfl (wnew_spec W0 []) rfl ?_
  rintro e L2 ⟨bw, s1, s2, s3, h1, rfl, rfl⟩
  refine G.assignP rfl trivial rfl rfl rfl ?_
  refine G.nil ?_
  refine C.seq ?_
  refine C.seq ?_
  refine C.region ?_
  refine G.assignI rfl trivial rfl rfl rfl ?_
  refine G.nil ?_
  refine C.block ?_
  refine C.loop (fun m F D' L' => ∃ (i : Nat) (g : Int → List Int) (s1 s2 s3 : Seg), m = ops.length - i + 0 ∧ i ≤ ops.length ∧ i ≤ 40 ∧ Acyc g ∧ WtIs bw g i s1 s2 s3 ∧ F 0 = .slice a ops.length cap ∧ F 4 = .pointer (some ⟨bw, 0, none⟩) ∧ F 5 = .int .i64 (i : Int) ∧ D' = [] ∧ s1 :: s2 :: s3 :: [] = L') ⟨_, ⟨0, g0, s1, s2, s3, rfl, by omega, by omega, fun u => not_rch (sl := []) (by simp) (by simp) (by simp), h1, rfl, rfl, rfl, rfl, rfl⟩⟩ ?_
  rintro m F D' L' ⟨i, g, s1, s2, s3, rfl, hi, hi40, hac, hw, h0, h4, h5, rfl, rfl⟩
  refine C.fix (d := 0) h0 ?_
  refine C.fix (d := 4) h4 ?_
  refine C.fix (d := 5) h5 ?_
  refine C.seq ?_
  refine C.seq ?_
  refine C.region ?_
  refine G.moveI rfl trivial rfl rfl rfl ?_
  refine G.moveS rfl trivial rfl rfl rfl ?_
  refine G.lenSlice rfl trivial rfl rfl Try.underlying22 rfl ?_
  refine G.bin rfl trivial rfl rfl rfl rfl rfl ?_
  refine G.moveB rfl trivial rfl rfl rfl ?_
  refine G.fork (t := 17) _ rfl ?_ ?_
  · intro hg17
    refine G.moveI rfl ⟨_, rfl, rfl, rfl⟩ rfl rfl rfl ?_
    refine G.bin rfl ⟨_, rfl, rfl, rfl⟩ rfl rfl rfl rfl rfl ?_
    first | refine G.pickT rfl trivial rfl rfl rfl rfl ?_ | refine G.pickF rfl trivial rfl rfl rfl rfl ?_
    refine G.nil ?_
    refine C.cond _ rfl ?_ ?_
    · intro hc1
      have hlt : i < ops.length := by first | assumption | omega
      obtain ⟨p, o, rfl, _⟩ := (hr []).some_ (by rw [chunk_length (k := 3) (fun _ _ => rfl)]; omega)
      obtain ⟨hoc, hom, hor⟩ := hwf _ (List.getElem_mem hlt)
      have hcell := fun L w hm => cellW (L := L) hr hlt w hm
      generalize ops[i] = op at hoc hom hor hcell
      obtain ⟨kd, tx, oa, oc, ys⟩ := op
      simp only at hoc hom hor
      refine C.skip ?_
      refine C.seq ?_
      refine C.block ?_
      refine C.seq ?_
      refine C.region ?_
      refine G.assignS rfl trivial rfl rfl rfl ?_
      refine G.nil ?_
      refine C.seq ?_
      refine C.seq ?_
      refine C.region ?_
      refine G.assignI rfl trivial rfl rfl rfl ?_
      refine G.less (fun _ h => h.empty) ?_
      refine G.nil ?_
      refine C.post (fun F D' L' => ∃ (zs : List Int) (az : Option Addr) (cz : Nat) (sz : Seg), zs.length ≤ 4 ∧ OwnS (.slice az zs.length cz) zs.length (zs.map (Value.int .i64)) 2 1 sz ∧ F 0 = .slice (some ⟨p, o, none⟩) ops.length cap ∧ F 4 = .pointer (some ⟨bw, 0, none⟩) ∧ F 5 = .int .i64 (i : Int) ∧ F 6 = .slice az zs.length cz ∧ D' = [] ∧ sz :: s1 :: s2 :: s3 :: [] = L') ?_ ?_
      ·
        refine C.block ?_
        refine C.loop (fun m F D' L' => ∃ (k : Nat) (zs : List Int) (az : Option Addr) (cz : Nat) (sz : Seg), m = ys.length - k + 0 ∧ k ≤ ys.length ∧ k ≤ 4 ∧ zs.length = k ∧ OwnS (.slice az zs.length cz) zs.length (zs.map (Value.int .i64)) 2 1 sz ∧ F 0 = .slice (some ⟨p, o, none⟩) ops.length cap ∧ F 4 = .pointer (some ⟨bw, 0, none⟩) ∧ F 5 = .int .i64 (i : Int) ∧ F 6 = .slice az zs.length cz ∧ F 7 = .int .i64 (k : Int) ∧ D' = [] ∧ sz :: s1 :: s2 :: s3 :: [] = L') ⟨_, ⟨0, [], none, 0, [], rfl, Nat.zero_le _, by omega, rfl, OwnS.nil _ _, rfl, rfl, rfl, rfl, rfl, rfl, rfl⟩⟩ ?_
        rintro m F D' L' ⟨k, zs, az, cz, sz, rfl, hk, hk4, hzl, hzo, h0, h4, h5, h6, h7, rfl, rfl⟩
        refine C.fix (d := 0) h0 ?_
        refine C.fix (d := 4) h4 ?_
        refine C.fix (d := 5) h5 ?_
        refine C.fix (d := 6) h6 ?_
        refine C.fix (d := 7) h7 ?_
        refine C.seq ?_
        refine C.seq ?_
        refine C.region ?_
        refine G.moveI rfl trivial rfl rfl rfl ?_
        refine G.moveS rfl trivial rfl rfl rfl ?_
        refine G.moveI rfl trivial rfl rfl rfl ?_
        refine G.indexAddr rfl trivial rfl rfl Try.underlying22 I32 rfl rfl (by omega) ?_
        refine G.fieldAddr rfl trivial rfl rfl Try.underlying32 rfl I30 rfl rfl ?_
        refine G.load rfl trivial rfl rfl Try.underlying30 rfl rfl (fun w hm => hcell _ w hm 2 _ rfl) ?_
        refine G.lenSlice rfl trivial rfl rfl Try.underlying30 rfl ?_
        refine G.bin rfl trivial rfl rfl rfl rfl rfl ?_
        refine G.moveB rfl trivial rfl rfl rfl ?_
        refine G.fork (t := 31) _ rfl ?_ ?_
        · intro hg31
          refine G.moveI rfl ⟨_, rfl, rfl, rfl⟩ rfl rfl rfl ?_
          refine G.bin rfl ⟨_, rfl, rfl, rfl⟩ rfl rfl rfl rfl rfl ?_
          first | refine G.pickT rfl trivial rfl rfl rfl rfl ?_ | refine G.pickF rfl trivial rfl rfl rfl rfl ?_
          refine G.nil ?_
          refine C.cond _ rfl ?_ ?_
          · intro hc2
            have hlk : k < ys.length := by have h : (k : Int) < (ys.length : Int) := hg31; omega
            obtain ⟨p2, o2, rfl, _⟩ := (hor []).some_ (by simp; omega)
            refine C.skip ?_
            refine C.seq ?_
            refine C.block ?_
            refine C.region ?_
            refine G.moveS rfl trivial rfl rfl rfl ?_
            refine G.moveS rfl trivial rfl rfl rfl ?_
            refine G.moveI rfl trivial rfl rfl rfl ?_
            refine G.indexAddr rfl trivial rfl rfl Try.underlying22 I32 rfl rfl (by omega) ?_
            refine G.fieldAddr rfl trivial rfl rfl Try.underlying32 rfl I30 rfl rfl ?_
            refine G.load rfl trivial rfl rfl Try.underlying30 rfl rfl (fun w hm => hcell _ w hm 2 _ rfl) ?_
            refine G.moveI rfl trivial rfl rfl rfl ?_
            refine G.indexAddr rfl trivial rfl rfl Try.underlying30 I2 rfl rfl (by omega) ?_
            refine G.load rfl trivial rfl rfl Try.underlying2 rfl rfl (rd_at (hor _) hlk) ?_
            refine G.bin rfl trivial rfl rfl rfl rfl rfl ?_
            refine G.low (d := 46) 7 (by decide) ⟨_, rfl⟩ ?_
            intro j46 hj46
            refine G.addN (i := 1) rfl trivial rfl rfl rfl rfl (by omega) ?_
            refine G.buildSliceL (cs := [.int .i64 ((1 + j46 : Nat) : Int)]) (zs := [(.int .i64 0)]) rfl trivial rfl rfl Try.underlying30 I2 rfl (by kernel_rfl) rfl rfl ?_
            intro b48
            refine G.less (fun _ h => h.perm2) ?_
            refine G.append hzo rfl trivial rfl rfl Try.underlying30 Try.underlying30 I2 rfl (by decide) rfl rfl (by decide) (Rd.row0 (.next .here)) rfl (by simp [cellsOk]) (by omega) ?_
            intro v49 s49 hv49
            obtain ⟨a49, c49, rfl, _⟩ := hv49.form
            refine G.assignS rfl trivial rfl rfl rfl ?_
            refine G.nil ?_
            refine C.region ?_
            refine G.moveI rfl trivial rfl rfl rfl ?_
            refine G.addN (j := 1) rfl trivial rfl rfl rfl rfl (by omega) ?_
            refine G.assignI rfl trivial rfl rfl rfl ?_
            refine G.less (fun _ h => h.skip1) ?_
            refine G.nil ?_
            exact ⟨ys.length - (k + 1) + 0, by omega, k + 1, zs ++ [((1 + j46 : Nat) : Int)], a49, c49, s49, rfl, by omega, by omega, by simp; omega, by rw [List.length_append, List.map_append]; exact hv49, rfl, rfl, rfl, by rw [List.length_append]; rfl, rfl, rfl, rfl⟩
          · intro hc2
            refine C.exit ?_
            exact ⟨zs, az, cz, sz, by omega, hzo, rfl, rfl, rfl, rfl, rfl, rfl⟩
        · intro hg31
          refine G.skip rfl rfl rfl rfl rfl rfl ?_
          refine G.skip rfl rfl rfl rfl rfl rfl ?_
          first | refine G.pickT rfl trivial rfl rfl rfl rfl ?_ | refine G.pickF rfl trivial rfl rfl rfl rfl ?_
          refine G.nil ?_
          refine C.condF rfl ?_
          refine C.exit ?_
          exact ⟨zs, az, cz, sz, by omega, hzo, rfl, rfl, rfl, rfl, rfl, rfl⟩
      ·
        rintro F D' L' ⟨zs, az, cz, sz, hzl, hzo, h0, h4, h5, h6, rfl, rfl⟩
        refine C.fix (d := 0) h0 ?_
        refine C.fix (d := 4) h4 ?_
        refine C.fix (d := 5) h5 ?_
        refine C.fix (d := 6) h6 ?_
        refine C.seq ?_
        refine C.region ?_
        refine G.moveP rfl trivial rfl rfl rfl ?_
        refine G.moveS rfl trivial rfl rfl rfl ?_
        refine G.moveI rfl trivial rfl rfl rfl ?_
        refine G.indexAddr rfl trivial rfl rfl Try.underlying22 I32 rfl rfl (by omega) ?_
        refine G.fieldAddr rfl trivial rfl rfl Try.underlying32 rfl I2 rfl rfl ?_
        refine G.load rfl trivial rfl rfl Try.underlying2 rfl rfl (fun w hm => hcell _ w hm 1 _ rfl) ?_
        refine G.bin rfl trivial rfl rfl rfl rfl rfl ?_
        refine G.low (d := 56) 7 (by decide) ⟨_, rfl⟩ ?_
        intro j56 hj56
        refine G.addN (i := 1) rfl trivial rfl rfl rfl rfl (by omega) ?_
        refine G.moveS rfl trivial rfl rfl rfl ?_
        refine G.call E10 rfl rfl trivial rfl rfl (FnS.perm (set_spec W0 (sz :: []) bw g i s1 s2 s3 hw (by omega) ((1 + j56 : Nat) : Int) az cz zs (by omega) (by obtain ⟨az2, cz2, hae, hrd⟩ := hzo.form; cases hae; exact (hrd W0 []).cons.cons.cons)) P4.symm) rfl ?_
        rintro e L2 ⟨bb, g2, s4, s5, s6, hb2, hw2, rfl, rfl⟩
        have hac2 : Acyc g2 := by rcases hb2 with ⟨_, hno, rfl⟩ | ⟨_, _, rfl⟩; exact hac.set hno; exact hac
        refine G.less (L' := s4 :: s5 :: s6 :: []) (fun _ h => h.fewer (by simp)) ?_
        refine G.nil ?_
        refine C.seq ?_
        refine C.region ?_
        refine G.assignI rfl trivial rfl rfl rfl ?_
        refine G.nil ?_
        refine C.block ?_
        refine C.loop (fun m F D' L' => ∃ (t : Nat), m = 9 - t + 0 ∧ t ≤ 9 ∧ F 0 = .slice (some ⟨p, o, none⟩) ops.length cap ∧ F 4 = .pointer (some ⟨bw, 0, none⟩) ∧ F 5 = .int .i64 (i : Int) ∧ F 8 = .int .i64 (t : Int) ∧ D' = [] ∧ s4 :: s5 :: s6 :: [] = L') ⟨_, ⟨1, rfl, by omega, rfl, rfl, rfl, rfl, rfl, rfl⟩⟩ ?_
        rintro m F D' L' ⟨t, rfl, ht, h0, h4, h5, h8, rfl, rfl⟩
        refine C.fix (d := 0) h0 ?_
        refine C.fix (d := 4) h4 ?_
        refine C.fix (d := 5) h5 ?_
        refine C.fix (d := 8) h8 ?_
        refine C.seq ?_
        refine C.seq ?_
        refine C.region ?_
        refine G.moveI rfl trivial rfl rfl rfl ?_
        refine G.bin rfl trivial rfl rfl rfl rfl rfl ?_
        refine G.nil ?_
        refine C.cond _ rfl ?_ ?_
        · intro hc3
          refine C.skip ?_
          refine C.seq ?_
          refine C.block ?_
          refine C.seq ?_
          refine C.region ?_
          refine G.moveP rfl trivial rfl rfl rfl ?_
          refine G.moveI rfl trivial rfl rfl rfl ?_
          refine G.moveP rfl trivial rfl rfl rfl ?_
          refine G.moveI rfl trivial rfl rfl rfl ?_
          refine G.call E17 rfl rfl trivial rfl rfl (on_val W0 [] bw g2 (i + 1) s4 s5 s6 hw2 (by omega) t (g2 t) rfl) rfl ?_
          rintro e L2 ⟨a68, c68, s68, hv68, rfl, rfl⟩
          have hlen68 : (g2 t).length ≤ 1000 := WtIs.lens hw2 t
          refine G.call E14 rfl rfl trivial rfl rfl (FnS.perm (round_val W0 (s68 :: []) bw g2 (i + 1) s4 s5 s6 hw2 (by omega) t a68 c68 (g2 t) (by omega) (by obtain ⟨az2, cz2, hae, hrd⟩ := hv68.form; cases hae; exact (hrd W0 []).cons.cons.cons) false ⟨fun h => (by cases h), fun h => absurd h (hac2 t)⟩) P4.symm) rfl ?_
          rintro e L2 ⟨rfl, rfl⟩
          refine G.less (L' := s4 :: s5 :: s6 :: []) (fun _ h => h.fewer (by simp)) ?_
          refine G.nil ?_
          refine C.condF rfl ?_
          refine C.skip ?_
          refine C.region ?_
          refine G.moveI rfl trivial rfl rfl rfl ?_
          refine G.addN (j := 1) rfl trivial rfl rfl rfl rfl (by omega) ?_
          refine G.assignI rfl trivial rfl rfl rfl ?_
          refine G.nil ?_
          exact ⟨9 - (t + 1) + 0, by omega, t + 1, rfl, by omega, rfl, rfl, rfl, rfl, rfl, rfl⟩
        · intro hc3
          refine C.exit ?_
          refine C.region ?_
          refine G.moveI rfl trivial rfl rfl rfl ?_
          refine G.addN (j := 1) rfl trivial rfl rfl rfl rfl (by omega) ?_
          refine G.assignI rfl trivial rfl rfl rfl ?_
          refine G.nil ?_
          exact ⟨ops.length - (i + 1) + 0, by omega, i + 1, g2, s4, s5, s6, rfl, by omega, by omega, hac2, hw2, rfl, rfl, rfl, rfl, rfl⟩
    · intro hc1
      refine C.exit ?_
      refine C.seq ?_
      refine C.region ?_
      refine G.assignB rfl trivial rfl rfl rfl ?_
      refine G.nil ?_
      refine C.ret ?_
      -- end g17Tc1F
      exact ⟨rfl, _, Res.of (rs := [.tmp 2]) rfl rfl, rfl⟩
  · intro hg17
    refine G.skip rfl rfl rfl rfl rfl rfl ?_
    refine G.skip rfl rfl rfl rfl rfl rfl ?_
    first | refine G.pickT rfl trivial rfl rfl rfl rfl ?_ | refine G.pickF rfl trivial rfl rfl rfl rfl ?_
    refine G.nil ?_
    refine C.condF rfl ?_
    refine C.exit ?_
    refine C.seq ?_
    refine C.region ?_
    refine G.assignB rfl trivial rfl rfl rfl ?_
    refine G.nil ?_
    refine C.ret ?_
    -- end g17F
    exact ⟨rfl, _, Res.of (rs := [.tmp 2]) rfl rfl, rfl⟩
end laws
end Go.Proofs.Ytfenbeiengnpbaa
