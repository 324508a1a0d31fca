/-
  Locks: LockAgain, LockUp walked.
-/
import Derived.Test.YtkiiafmcfdfbhaaLo3
namespace Go.Proofs.Ytkiiafmcfdfbhaa
open Go Go.SL Go.RowKit Go.Sort

theorem against_self (x y : One) (h : x.1 = y.1) : againstB x y = false := by unfold againstB; rw [if_pos h]
/-- so many that read -/
def rd (k : ByteArray) (n : Nat) : List One := (List.range n).map fun (j : Nat) => ((j : Int) + 1, (1 : Int), k)
theorem rd_length (k : ByteArray) (n : Nat) : (rd k n).length = n := by simp [rd]
theorem rd_succ (k : ByteArray) (n : Nat) : rd k (n + 1) = rd k n ++ [((n : Int) + 1, 1, k)] := by simp [rd, List.range_succ]
theorem rd_cons (k : ByteArray) (n : Nat) : rd k (n + 1) = (1, 1, k) :: (List.range n).map fun (j : Nat) => ((j : Int) + 2, (1 : Int), k) := by
  unfold rd
  rw [List.range_succ_eq_map, List.map_cons, List.map_map]
  refine List.cons_eq_cons.2 ⟨by simp, List.map_congr_left fun j _ => ?_⟩
  simp only [Function.comp, Prod.mk.injEq, and_true]
  omega
theorem rd_quiet (k : ByteArray) (t : Int) (n : Nat) : onL (t, 1, k) (rd k n) = [] := by
  unfold onL
  rw [List.map_eq_nil_iff, List.filter_eq_nil_iff]
  intro y hy
  obtain ⟨j, _, rfl⟩ := List.mem_map.1 hy
  unfold againstB
  simp
theorem rd_new (k : ByteArray) (n : Nat) : inL ((n : Int) + 1, 1, k) (rd k n) = false := by
  rw [Bool.eq_false_iff]
  intro h
  obtain ⟨j, hj, he⟩ := List.mem_map.1 ((inL_iff _ _).1 h)
  rw [List.mem_range] at hj
  have := congrArg Prod.fst he
  simp at this
  omega
def upR (n : Nat) : List Int := (List.range n).map fun (j : Nat) => (j : Int) + 2
theorem rd_up (k : ByteArray) (n : Nat) : onL (1, 2, k) (rd k (n + 1)) = upR n := by
  rw [rd_cons]
  unfold onL upR
  rw [List.filter_cons_of_neg (by simp [againstB]), List.filter_eq_self.2, List.map_map]
  · rfl
  · intro y hy
    obtain ⟨j, _, rfl⟩ := List.mem_map.1 hy
    have : ¬ (1 : Int) = (j : Int) + 2 := by omega
    simp [againstB, this]
theorem upR_rising (n : Nat) : (upR n).Pairwise (· < ·) := by
  unfold upR
  rw [List.pairwise_map]
  exact List.pairwise_lt_range.imp fun h => by omega
section laws
variable (W0 : World)
theorem again_walk (mo n : Int) (k : ByteArray) : FnS Try.prog W0 7 #[.int .i64 mo, .int .i64 n, .string k] [] (fun e _ => e = .returned (.bool true)) := by
  obtain ⟨x, hxe⟩ : ∃ x, lockOf 5 mo k = x := ⟨_, rfl⟩
  have hx1 : x.1 = 5 := by rw [← hxe]; rfl
  have q0 : onL x [x] = [] := by unfold onL; rw [List.filter_cons_of_neg (by rw [against_self x x rfl]; decide)]; rfl
  have q1 : inL x [x] = true := (inL_iff _ _).2 (by simp)
  have q2 : others 5 [x] = [] := by unfold others; rw [List.filter_cons_of_neg (by simp [hx1])]; rfl
  refine FnS.of (args := [.int .i64 mo, .int .i64 n, .string k]) Try.func7 rfl rfl ?_
  refine C.seq ?_
  refine C.region ?_
  refine G.assignB rfl trivial rfl rfl rfl ?_
  refine G.nil ?_
  refine C.seq ?_
  refine C.region ?_
  refine G.call E9 rfl rfl trivial rfl rfl (begun_spec W0 _) rfl ?_
  rintro e L2 ⟨rfl, rfl⟩
  refine G.assignB rfl trivial rfl rfl rfl ?_
  refine G.nil ?_
  refine C.seq ?_
  refine C.seq ?_
  refine C.region ?_
  refine G.moveB rfl trivial rfl rfl rfl ?_
  first | refine G.notD rfl trivial rfl rfl rfl ?_ | refine G.not rfl trivial rfl rfl rfl ?_
  refine G.nil ?_
  refine C.condF rfl ?_
  refine C.skip ?_
  refine C.seq ?_
  refine C.seq ?_
  refine C.region ?_
  refine G.moveI rfl trivial rfl rfl rfl ?_
  refine G.bin rfl trivial rfl rfl rfl rfl rfl ?_
  refine G.moveB rfl trivial rfl rfl rfl ?_
  refine G.fork (t := 17) _ rfl ?_ ?_
  · intro hg17
    refine G.skip rfl rfl rfl rfl rfl rfl ?_
    refine G.skip rfl rfl rfl rfl rfl rfl ?_
    first | refine G.pickT rfl trivial rfl rfl rfl rfl ?_ | refine G.pickF rfl trivial rfl rfl rfl rfl ?_
    refine G.moveB rfl trivial rfl rfl rfl ?_
    refine G.skip rfl rfl rfl rfl rfl rfl ?_
    refine G.skip rfl rfl rfl rfl rfl rfl ?_
    first | refine G.pickT rfl trivial rfl rfl rfl rfl ?_ | refine G.pickF rfl trivial rfl rfl rfl rfl ?_
    refine G.moveB rfl trivial rfl rfl rfl ?_
    refine G.skip rfl rfl rfl rfl rfl rfl ?_
    refine G.skip rfl rfl rfl rfl rfl rfl ?_
    first | refine G.pickT rfl trivial rfl rfl rfl rfl ?_ | refine G.pickF rfl trivial rfl rfl rfl rfl ?_
    refine G.moveB rfl trivial rfl rfl rfl ?_
    refine G.skip rfl rfl rfl rfl rfl rfl ?_
    refine G.skip rfl rfl rfl rfl rfl rfl ?_
    refine G.skip rfl rfl rfl rfl rfl rfl ?_
    first | refine G.pickT rfl trivial rfl rfl rfl rfl ?_ | refine G.pickF rfl trivial rfl rfl rfl rfl ?_
    refine G.nil ?_
    refine C.condT rfl ?_
    refine C.seq ?_
    refine C.region ?_
    refine G.assignB rfl trivial rfl rfl rfl ?_
    refine G.nil ?_
    refine C.ret ?_
    -- end g17T
    exact ⟨rfl, _, Res.of (rs := [.tmp 6]) rfl rfl, rfl⟩
  · intro hg17
    refine G.moveI rfl ⟨_, rfl, rfl, rfl⟩ rfl rfl rfl ?_
    refine G.bin rfl ⟨_, rfl, rfl, rfl⟩ rfl rfl rfl rfl rfl ?_
    first | refine G.pickT rfl trivial rfl rfl rfl rfl ?_ | refine G.pickF rfl trivial rfl rfl rfl rfl ?_
    refine G.moveB rfl trivial rfl rfl rfl ?_
    refine G.fork (t := 21) _ rfl ?_ ?_
    · intro hg21
      refine G.skip rfl rfl rfl rfl rfl rfl ?_
      refine G.skip rfl rfl rfl rfl rfl rfl ?_
      first | refine G.pickT rfl trivial rfl rfl rfl rfl ?_ | refine G.pickF rfl trivial rfl rfl rfl rfl ?_
      refine G.moveB rfl trivial rfl rfl rfl ?_
      refine G.skip rfl rfl rfl rfl rfl rfl ?_
      refine G.skip rfl rfl rfl rfl rfl rfl ?_
      first | refine G.pickT rfl trivial rfl rfl rfl rfl ?_ | refine G.pickF rfl trivial rfl rfl rfl rfl ?_
      refine G.moveB rfl trivial rfl rfl rfl ?_
      refine G.skip rfl rfl rfl rfl rfl rfl ?_
      refine G.skip rfl rfl rfl rfl rfl rfl ?_
      refine G.skip rfl rfl rfl rfl rfl rfl ?_
      first | refine G.pickT rfl trivial rfl rfl rfl rfl ?_ | refine G.pickF rfl trivial rfl rfl rfl rfl ?_
      refine G.nil ?_
      refine C.condT rfl ?_
      refine C.seq ?_
      refine C.region ?_
      refine G.assignB rfl trivial rfl rfl rfl ?_
      refine G.nil ?_
      refine C.ret ?_
      -- end g17Fg21T
      exact ⟨rfl, _, Res.of (rs := [.tmp 6]) rfl rfl, rfl⟩
    · intro hg21
      refine G.moveI rfl ⟨_, rfl, rfl, rfl⟩ rfl rfl rfl ?_
      refine G.bin rfl ⟨_, rfl, rfl, rfl⟩ rfl rfl rfl rfl rfl ?_
      first | refine G.pickT rfl trivial rfl rfl rfl rfl ?_ | refine G.pickF rfl trivial rfl rfl rfl rfl ?_
      refine G.moveB rfl trivial rfl rfl rfl ?_
      refine G.fork (t := 25) _ rfl ?_ ?_
      · intro hg25
        refine G.skip rfl rfl rfl rfl rfl rfl ?_
        refine G.skip rfl rfl rfl rfl rfl rfl ?_
        first | refine G.pickT rfl trivial rfl rfl rfl rfl ?_ | refine G.pickF rfl trivial rfl rfl rfl rfl ?_
        refine G.moveB rfl trivial rfl rfl rfl ?_
        refine G.skip rfl rfl rfl rfl rfl rfl ?_
        refine G.skip rfl rfl rfl rfl rfl rfl ?_
        refine G.skip rfl rfl rfl rfl rfl rfl ?_
        first | refine G.pickT rfl trivial rfl rfl rfl rfl ?_ | refine G.pickF rfl trivial rfl rfl rfl rfl ?_
        refine G.nil ?_
        refine C.condT rfl ?_
        refine C.seq ?_
        refine C.region ?_
        refine G.assignB rfl trivial rfl rfl rfl ?_
        refine G.nil ?_
        refine C.ret ?_
        -- end g17Fg21Fg25T
        exact ⟨rfl, _, Res.of (rs := [.tmp 6]) rfl rfl, rfl⟩
      · intro hg25
        refine G.moveI rfl ⟨_, rfl, rfl, rfl⟩ rfl rfl rfl ?_
        refine G.bin rfl ⟨_, rfl, rfl, rfl⟩ rfl rfl rfl rfl rfl ?_
        first | refine G.pickT rfl trivial rfl rfl rfl rfl ?_ | refine G.pickF rfl trivial rfl rfl rfl rfl ?_
        refine G.moveB rfl trivial rfl rfl rfl ?_
        refine G.fork (t := 29) _ rfl ?_ ?_
        · intro hg29
          refine G.skip rfl rfl rfl rfl rfl rfl ?_
          refine G.skip rfl rfl rfl rfl rfl rfl ?_
          refine G.skip rfl rfl rfl rfl rfl rfl ?_
          first | refine G.pickT rfl trivial rfl rfl rfl rfl ?_ | refine G.pickF rfl trivial rfl rfl rfl rfl ?_
          refine G.nil ?_
          refine C.condT rfl ?_
          refine C.seq ?_
          refine C.region ?_
          refine G.assignB rfl trivial rfl rfl rfl ?_
          refine G.nil ?_
          refine C.ret ?_
          -- end g17Fg21Fg25Fg29T
          exact ⟨rfl, _, Res.of (rs := [.tmp 6]) rfl rfl, rfl⟩
        · intro hg29
          refine G.moveT rfl ⟨_, rfl, rfl, rfl⟩ rfl rfl rfl ?_
          refine G.lenStr rfl ⟨_, rfl, rfl, rfl⟩ rfl rfl Try.underlying9 rfl ?_
          refine G.bin rfl ⟨_, rfl, rfl, rfl⟩ rfl rfl rfl rfl rfl ?_
          first | refine G.pickT rfl trivial rfl rfl rfl rfl ?_ | refine G.pickF rfl trivial rfl rfl rfl rfl ?_
          refine G.nil ?_
          refine C.cond _ rfl ?_ ?_
          · intro hc1
            refine C.seq ?_
            refine C.region ?_
            refine G.assignB rfl trivial rfl rfl rfl ?_
            refine G.nil ?_
            refine C.ret ?_
            -- end g17Fg21Fg25Fg29Fc1T
            exact ⟨rfl, _, Res.of (rs := [.tmp 6]) rfl rfl, rfl⟩
          · intro hc1
            refine C.skip ?_
            refine C.seq ?_
            refine C.region ?_
            refine G.call E10 rfl rfl trivial rfl rfl (new_spec W0 _) rfl ?_
            rintro e L2 ⟨bk, s1, s2, h1, rfl, rfl⟩
            refine G.assignP rfl trivial rfl rfl rfl ?_
            refine G.nil ?_
            refine C.seq ?_
            refine C.seq ?_
            refine C.region ?_
            refine G.assignI rfl trivial rfl rfl rfl ?_
            refine G.nil ?_
            refine C.block ?_
            refine C.loop (fun m F D' L' => ∃ (i : Int) (ls : List One) (s1 s2 : Seg), m = (n - i).toNat + 0 ∧ 0 ≤ i ∧ i ≤ n ∧ (ls = [x] ∨ (ls = [] ∧ i = 0)) ∧ LkIs bk ls s1 s2 ∧ F 0 = .int .i64 mo ∧ F 1 = .int .i64 n ∧ F 2 = .string k ∧ F 8 = .pointer (some ⟨bk, 0, none⟩) ∧ F 9 = .int .i64 i ∧ D' = [] ∧ s1 :: s2 :: [] = L') ⟨_, ⟨0, [], s1, s2, rfl, by omega, by omega, .inr ⟨rfl, rfl⟩, h1, rfl, rfl, rfl, rfl, rfl, rfl, rfl⟩⟩ ?_
            rintro m F D' L' ⟨i, ls, s1, s2, rfl, hi0, hi1, hls, hk, h0, h1, h2, h8, h9, rfl, rfl⟩
            refine C.fix (d := 0) h0 ?_
            refine C.fix (d := 1) h1 ?_
            refine C.fix (d := 2) h2 ?_
            refine C.fix (d := 8) h8 ?_
            refine C.fix (d := 9) h9 ?_
            refine C.seq ?_
            refine C.seq ?_
            refine C.region ?_
            refine G.moveI rfl trivial rfl rfl rfl ?_
            refine G.moveI rfl trivial rfl rfl rfl ?_
            refine G.bin rfl trivial rfl rfl rfl rfl rfl ?_
            refine G.nil ?_
            refine C.cond _ rfl ?_ ?_
            · intro hc2
              refine C.skip ?_
              refine C.seq ?_
              refine C.block ?_
              refine C.seq ?_
              refine C.region ?_
              refine G.moveP rfl trivial rfl rfl rfl ?_
              refine G.moveI rfl trivial rfl rfl rfl ?_
              refine G.moveT rfl trivial rfl rfl rfl ?_
              refine G.call E12 rfl rfl trivial rfl rfl (lock_ok W0 [] bk ls [x] s1 s2 hk (by rcases hls with rfl | ⟨rfl, _⟩ <;> simp) 5 mo k (by omega) (by rw [hxe]; rcases hls with rfl | ⟨rfl, _⟩; exact q0; rfl) (by rw [hxe]; rcases hls with rfl | ⟨rfl, _⟩; rw [if_pos q1]; rfl)) rfl ?_
              rintro e L2 ⟨a1, c1, s3, s4, hk2, rfl, rfl⟩
              refine G.moveU rfl trivial rfl rfl rfl ?_
              refine G.extractL rfl trivial rfl rfl rfl rfl ?_
              refine G.extractL rfl trivial rfl rfl rfl rfl ?_
              refine G.assignS rfl trivial rfl rfl rfl ?_
              refine G.assignB rfl trivial rfl rfl rfl ?_
              refine G.nil ?_
              refine C.seq ?_
              refine C.region ?_
              refine G.moveB rfl trivial rfl rfl rfl ?_
              first | refine G.notD rfl trivial rfl rfl rfl ?_ | refine G.not rfl trivial rfl rfl rfl ?_
              refine G.moveB rfl trivial rfl rfl rfl ?_
              refine G.moveP rfl ⟨_, rfl, rfl, rfl⟩ rfl rfl rfl ?_
              refine G.call E17 rfl rfl ⟨_, rfl, rfl, rfl⟩ rfl rfl (llen_spec W0 _ bk [x] s3 s4 hk2) rfl ?_
              rintro e L2 ⟨rfl, rfl⟩
              refine G.bin rfl ⟨_, rfl, rfl, rfl⟩ rfl rfl rfl rfl rfl ?_
              first | refine G.pickT rfl trivial rfl rfl rfl rfl ?_ | refine G.pickF rfl trivial rfl rfl rfl rfl ?_
              refine G.nil ?_
              refine C.condF rfl ?_
              refine C.skip ?_
              refine C.region ?_
              refine G.moveI rfl trivial rfl rfl rfl ?_
              refine G.add rfl trivial rfl rfl rfl rfl (by omega) ?_
              refine G.assignI rfl trivial rfl rfl rfl ?_
              refine G.nil ?_
              exact ⟨(n - (i + 1)).toNat + 0, by omega, i + 1, [x], s3, s4, rfl, by omega, by omega, .inl rfl, hk2, rfl, rfl, rfl, rfl, rfl, rfl, rfl⟩
            · intro hc2
              have hls2 : ls = [x] := hls.resolve_right (fun h => by omega)
              subst hls2
              refine C.exit ?_
              refine C.seq ?_
              refine C.region ?_
              refine G.moveP rfl trivial rfl rfl rfl ?_
              refine G.moveI rfl trivial rfl rfl rfl ?_
              refine G.moveT rfl trivial rfl rfl rfl ?_
              refine G.call E18 rfl rfl trivial rfl rfl (lhas_spec W0 _ bk [x] s1 s2 hk (by simp) 5 mo k) rfl ?_
              rintro e L2 ⟨rfl, rfl⟩
              rw [hxe, q1]
              refine G.moveB rfl trivial rfl rfl rfl ?_
              refine G.moveP rfl ⟨_, rfl, rfl, rfl⟩ rfl rfl rfl ?_
              refine G.call E15 rfl rfl ⟨_, rfl, rfl, rfl⟩ rfl rfl (free_spec W0 _ bk [x] s1 s2 hk (by simp) 5) rfl ?_
              rintro e L2 ⟨s3, s4, hk2, rfl, rfl⟩
              rw [q2] at hk2 ⊢
              refine G.bin rfl ⟨_, rfl, rfl, rfl⟩ rfl rfl rfl rfl rfl ?_
              first | refine G.pickT rfl trivial rfl rfl rfl rfl ?_ | refine G.pickF rfl trivial rfl rfl rfl rfl ?_
              refine G.moveB rfl trivial rfl rfl rfl ?_
              refine G.moveP rfl ⟨_, rfl, rfl, rfl⟩ rfl rfl rfl ?_
              refine G.moveI rfl ⟨_, rfl, rfl, rfl⟩ rfl rfl rfl ?_
              refine G.moveT rfl ⟨_, rfl, rfl, rfl⟩ rfl rfl rfl ?_
              refine G.call E18 rfl rfl ⟨_, rfl, rfl, rfl⟩ rfl rfl (lhas_spec W0 _ bk [] s3 s4 hk2 (by simp) 5 mo k) rfl ?_
              rintro e L2 ⟨rfl, rfl⟩
              first | refine G.notD rfl ⟨_, rfl, rfl, rfl⟩ rfl rfl rfl ?_ | refine G.not rfl ⟨_, rfl, rfl, rfl⟩ rfl rfl rfl ?_
              first | refine G.pickT rfl trivial rfl rfl rfl rfl ?_ | refine G.pickF rfl trivial rfl rfl rfl rfl ?_
              refine G.moveB rfl trivial rfl rfl rfl ?_
              refine G.moveP rfl ⟨_, rfl, rfl, rfl⟩ rfl rfl rfl ?_
              refine G.call E15 rfl rfl ⟨_, rfl, rfl, rfl⟩ rfl rfl (free_spec W0 _ bk [] s3 s4 hk2 (by simp) 5) rfl ?_
              rintro e L2 ⟨s5, s6, hk3, rfl, rfl⟩
              refine G.bin rfl ⟨_, rfl, rfl, rfl⟩ rfl rfl rfl rfl rfl ?_
              first | refine G.pickT rfl trivial rfl rfl rfl rfl ?_ | refine G.pickF rfl trivial rfl rfl rfl rfl ?_
              refine G.assignB rfl trivial rfl rfl rfl ?_
              refine G.nil ?_
              refine C.ret ?_
              -- end g17Fg21Fg25Fg29Fc1Fc2F
              exact ⟨rfl, _, Res.of (rs := [.tmp 6]) rfl rfl, rfl⟩
end laws
end Go.Proofs.Ytkiiafmcfdfbhaa
