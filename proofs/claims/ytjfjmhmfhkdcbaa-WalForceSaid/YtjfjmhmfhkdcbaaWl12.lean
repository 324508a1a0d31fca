/-
  The laws of the log: room.
-/
import Derived.Test.YtjfjmhmfhkdcbaaWl11
namespace Go.Proofs.Ytjfjmhmfhkdcbaa
open Go Go.SL Go.RowKit

theorem size_rep (b : List UInt8) : ∀ k, size (List.replicate k b) = k * (b.length + 4)
  | 0 => by simp [size_nil]
  | k + 1 => by rw [List.replicate_succ, size_cons, size_rep b k, Nat.succ_mul]; omega
theorem full_walk (W0 : World) (sz n : Nat) (h1 : 1000 ≤ sz) (h2 : sz ≤ 60000) (h3 : n ≤ 80) :
    FnS Try.prog W0 3 #[.int .i64 (sz : Int), .int .i64 (n : Int)] [] (fun e _ => e = .returned (.bool true)) := by
  obtain ⟨hok0, hlv0, hln0⟩ := newW
  obtain ⟨rm, hrm⟩ : ∃ rm, rm = 65536 / (sz + 4) := ⟨_, rfl⟩
  obtain ⟨U, hU⟩ : ∃ U : Nat → List (List UInt8), U = fun k => List.replicate k (List.replicate sz 0) := ⟨_, rfl⟩
  have hUs : ∀ k, size (U k) = k * (sz + 4) := fun k => by rw [hU]; show size (List.replicate k _) = _; rw [size_rep, List.length_replicate]
  have hU1 : ∀ k, U k ++ [List.replicate sz 0] = U (k + 1) := fun k => by rw [hU]; show List.replicate k _ ++ [_] = List.replicate (k + 1) _; rw [List.replicate_succ']
  have hU0 : U 0 = [] := by rw [hU]; rfl
  have hzl : (List.replicate sz (0 : UInt8)).length = sz := List.length_replicate
  have hlt : 65536 < rm * (sz + 4) + (sz + 4) := by
    have := Nat.lt_mul_div_succ 65536 (show 0 < sz + 4 by omega)
    rw [← hrm, Nat.mul_add, Nat.mul_one, Nat.mul_comm] at this
    exact this
  have hle : rm * (sz + 4) ≤ 65536 := by rw [hrm]; exact Nat.div_mul_le_self _ _
  have hrml : rm ≤ 65536 := by rw [hrm]; exact Nat.div_le_self _ _
  have hmono : ∀ k, k ≤ rm → k * (sz + 4) ≤ rm * (sz + 4) := fun k hk => Nat.mul_le_mul_right _ hk
  refine FnS.of (args := [.int .i64 (sz : Int), .int .i64 (n : Int)]) Try.func3 rfl rfl ?_
  refine C.seq ?_
  refine C.region ?_
  refine G.assignB rfl trivial rfl rfl rfl ?_
  refine G.nil ?_
  refine C.seq ?_
  refine C.region ?_
  refine G.call E9 rfl rfl trivial rfl rfl (beganW_spec W0 _) rfl ?_
  rintro e L2 ⟨rfl, rfl⟩
  refine G.assignB rfl trivial rfl rfl rfl ?_
  refine G.nil ?_
  refine C.seq ?_
  refine C.seq ?_
  refine C.region ?_
  refine G.moveB rfl trivial rfl rfl rfl ?_
  first | refine G.notD rfl trivial rfl rfl rfl ?_ | refine G.not rfl trivial rfl rfl rfl ?_
  refine G.fix (d := 17) (v := .bool false) rfl ?_
  refine G.nil ?_
  refine C.condF rfl ?_
  refine C.skip ?_
  refine C.seq ?_
  refine C.seq ?_
  refine C.region ?_
  refine G.moveI rfl trivial rfl rfl rfl ?_
  refine G.bin rfl trivial rfl rfl rfl rfl rfl ?_
  refine G.moveB rfl trivial rfl rfl rfl ?_
  refine G.no (t := 20) rfl (by omega) ?_
  refine G.moveI rfl ⟨_, rfl, rfl, rfl⟩ rfl rfl rfl ?_
  refine G.bin rfl ⟨_, rfl, rfl, rfl⟩ rfl rfl rfl rfl rfl ?_
  first | refine G.pickT rfl trivial rfl rfl rfl rfl ?_ | refine G.pickF rfl trivial rfl rfl rfl rfl ?_
  refine G.moveB rfl trivial rfl rfl rfl ?_
  refine G.no (t := 24) rfl (by omega) ?_
  refine G.moveI rfl ⟨_, rfl, rfl, rfl⟩ rfl rfl rfl ?_
  refine G.bin rfl ⟨_, rfl, rfl, rfl⟩ rfl rfl rfl rfl rfl ?_
  first | refine G.pickT rfl trivial rfl rfl rfl rfl ?_ | refine G.pickF rfl trivial rfl rfl rfl rfl ?_
  refine G.moveB rfl trivial rfl rfl rfl ?_
  refine G.no (t := 28) rfl (by omega) ?_
  refine G.moveI rfl ⟨_, rfl, rfl, rfl⟩ rfl rfl rfl ?_
  refine G.bin rfl ⟨_, rfl, rfl, rfl⟩ rfl rfl rfl rfl rfl ?_
  first | refine G.pickT rfl trivial rfl rfl rfl rfl ?_ | refine G.pickF rfl trivial rfl rfl rfl rfl ?_
  refine G.nil ?_
  refine C.no rfl (by omega) ?_
  refine C.skip ?_
  refine C.seq ?_
  refine C.region ?_
  refine G.call E11 rfl rfl trivial rfl rfl (new_spec W0 _ 1410) rfl ?_
  rintro e L2 ⟨bd, bl, rfl, rfl⟩
  rw [show clampN 1410 = 1410 from rfl]
  generalize newDv 1410 = d0 at *
  refine G.call E10 rfl rfl trivial rfl rfl (wa_make W0 [] _ bd bl d0 hok0 hlv0 hln0) rfl ?_
  rintro e L2 ⟨bg, bs, sg, sp, d1, rfl, hw1, rfl⟩
  refine G.moveU rfl trivial rfl rfl rfl ?_
  refine G.extractL rfl trivial rfl rfl rfl rfl ?_
  refine G.extractL rfl trivial rfl rfl rfl rfl ?_
  refine G.assignP rfl trivial rfl rfl rfl ?_
  refine G.assignI rfl trivial rfl rfl rfl ?_
  refine G.nil ?_
  refine C.seq ?_
  refine C.seq ?_
  refine C.region ?_
  refine G.moveI rfl trivial rfl rfl rfl ?_
  refine G.bin rfl trivial rfl rfl rfl rfl rfl ?_
  refine G.nil ?_
  refine C.no rfl (by simp) ?_
  refine C.skip ?_
  refine C.seq ?_
  refine C.region ?_
  refine G.moveI rfl trivial rfl rfl rfl ?_
  refine G.add rfl trivial rfl rfl rfl rfl (by omega) ?_
  refine G.fix (d := 40) (v := .int .i64 ((sz + 4 : Nat) : Int)) (by show Value.int .i64 _ = _; congr 1) ?_
  refine G.quo rfl trivial rfl rfl rfl rfl (by omega) ?_
  refine G.fix (d := 41) (v := .int .i64 (rm : Int)) (by show Value.int .i64 _ = _; refine congrArg _ ?_; rw [show (65536 : Int) = ((65536 : Nat) : Int) from rfl, tdiv_nat, ← hrm]; exact wrap_i64 (by omega)) ?_
  refine G.assignI rfl trivial rfl rfl rfl ?_
  refine G.nil ?_
  refine C.seq ?_
  refine C.seq ?_
  refine C.region ?_
  refine G.assignI rfl trivial rfl rfl rfl ?_
  refine G.nil ?_
  refine C.block ?_
  refine C.loop (fun m F D' L' => ∃ (i : Nat) (sg : Seg), i ≤ n ∧ WA bg bs bd 0 [] (U (min i rm)) 1 d1 sg sp ∧ m = n - i ∧ F 9 = .int .i64 (i : Int) ∧ F 8 = .int .i64 (rm : Int) ∧ F 6 = ptr bg ∧ F 0 = .int .i64 (sz : Int) ∧ F 1 = .int .i64 (n : Int) ∧ D' = [] ∧ sg :: sp :: devSeg bd bl d1 :: [] = L') ⟨_, ⟨0, sg, by omega, by rw [Nat.zero_min, hU0]; exact hw1, rfl, rfl, rfl, rfl, rfl, rfl, rfl, rfl⟩⟩ ?_
  rintro m F D' L' ⟨i, sg, hi, hw, rfl, h9, h8, h6, h0', h1', rfl, rfl⟩
  refine C.fix (d := 9) h9 ?_
  refine C.fix (d := 8) h8 ?_
  refine C.fix (d := 6) h6 ?_
  refine C.fix (d := 0) h0' ?_
  refine C.fix (d := 1) h1' ?_
  refine C.seq ?_
  refine C.seq ?_
  refine C.region ?_
  refine G.moveI rfl trivial rfl rfl rfl ?_
  refine G.moveI rfl trivial rfl rfl rfl ?_
  refine G.bin rfl trivial rfl rfl rfl rfl rfl ?_
  refine G.nil ?_
  refine C.cond _ rfl ?_ ?_
  · intro hc3
    refine C.skip ?_
    refine C.seq ?_
    refine C.block ?_
    refine C.seq ?_
    refine C.region ?_
    refine G.assignI rfl trivial rfl rfl rfl ?_
    refine G.nil ?_
    refine C.seq ?_
    refine C.seq ?_
    refine C.region ?_
    refine G.moveI rfl trivial rfl rfl rfl ?_
    refine G.moveI rfl trivial rfl rfl rfl ?_
    refine G.bin rfl trivial rfl rfl rfl rfl rfl ?_
    refine G.nil ?_
    refine C.cond _ rfl ?_ ?_
    · intro hc4
      refine C.region ?_
      refine G.assignI rfl trivial rfl rfl rfl ?_
      refine G.nil ?_
      refine C.seq ?_
      refine C.region ?_
      refine G.moveP rfl trivial rfl rfl rfl ?_
      refine G.moveI rfl trivial rfl rfl rfl ?_
      refine G.makeBytes (l := sz) (c := sz) rfl trivial rfl rfl Try.underlying31 I5 rfl rfl (by omega) ?_
      intro b53
      have hmin : min i rm = rm := by omega
      rw [hmin] at hw
      refine G.call E12 rfl rfl trivial rfl rfl (wa_full W0 [_] _ bg bs bd 0 1 [] (U rm) d1 sg sp hw (by decide) _ sz sz (by omega) (by rw [hUs, size_nil]; omega)) rfl ?_
      rintro e L2 ⟨rfl, rfl⟩
      refine G.moveU rfl trivial rfl rfl rfl ?_
      refine G.extractL rfl trivial rfl rfl rfl rfl ?_
      refine G.extractL rfl trivial rfl rfl rfl rfl ?_
      refine G.assignI rfl trivial rfl rfl rfl ?_
      refine G.assignI rfl trivial rfl rfl rfl ?_
      refine G.nil ?_
      refine C.seq ?_
      refine C.region ?_
      refine G.moveI rfl trivial rfl rfl rfl ?_
      refine G.moveI rfl trivial rfl rfl rfl ?_
      refine G.bin rfl trivial rfl rfl rfl rfl rfl ?_
      refine G.less (fun _ h => h.tail) ?_
      refine G.nil ?_
      refine C.no rfl (by simp) ?_
      refine C.skip ?_
      refine C.region ?_
      refine G.moveI rfl trivial rfl rfl rfl ?_
      refine G.add rfl trivial rfl rfl rfl rfl (by omega) ?_
      refine G.assignI rfl trivial rfl rfl rfl ?_
      refine G.nil ?_
      exact ⟨n - (i + 1), by omega, i + 1, sg, by omega, by rw [show min (i + 1) rm = rm by omega]; exact hw, rfl, rfl, rfl, rfl, rfl, rfl, rfl, rfl⟩
    · intro hc4
      refine C.skip ?_
      refine C.seq ?_
      refine C.region ?_
      refine G.moveP rfl trivial rfl rfl rfl ?_
      refine G.moveI rfl trivial rfl rfl rfl ?_
      refine G.makeBytes (l := sz) (c := sz) rfl trivial rfl rfl Try.underlying31 I5 rfl rfl (by omega) ?_
      intro b53
      have hmin : min i rm = i := by omega
      rw [hmin] at hw
      have hmi := hmono (i + 1) (by omega)
      rw [Nat.succ_mul] at hmi
      refine G.less (fun _ h => h.perm2) ?_
      refine G.call E12 rfl rfl trivial rfl rfl (wa_append W0 _ bg bs bd 0 1 [] (U i) d1 sg sp hw (by decide) _ sz sz (List.replicate sz 0) hzl.symm (by rw [hzl]; omega) (by rw [hzl, hUs, size_nil]; omega) (fun _ => Rd.row0 (.app .here))) rfl ?_
      rintro e L2 ⟨sg2, hw2, rfl, rfl⟩
      refine G.moveU rfl trivial rfl rfl rfl ?_
      refine G.extractL rfl trivial rfl rfl rfl rfl ?_
      refine G.extractL rfl trivial rfl rfl rfl rfl ?_
      refine G.assignI rfl trivial rfl rfl rfl ?_
      refine G.assignI rfl trivial rfl rfl rfl ?_
      refine G.nil ?_
      refine C.seq ?_
      refine C.region ?_
      refine G.moveI rfl trivial rfl rfl rfl ?_
      refine G.moveI rfl trivial rfl rfl rfl ?_
      refine G.bin rfl trivial rfl rfl rfl rfl rfl ?_
      refine G.less (fun _ h => h.skip1) ?_
      refine G.nil ?_
      refine C.no rfl (by simp) ?_
      refine C.skip ?_
      refine C.region ?_
      refine G.moveI rfl trivial rfl rfl rfl ?_
      refine G.add rfl trivial rfl rfl rfl rfl (by omega) ?_
      refine G.assignI rfl trivial rfl rfl rfl ?_
      refine G.nil ?_
      exact ⟨n - (i + 1), by omega, i + 1, sg2, by omega, by rw [show min (i + 1) rm = i + 1 by omega, ← hU1]; exact hw2, rfl, rfl, rfl, rfl, rfl, rfl, rfl, rfl⟩
  · intro hc3
    obtain rfl : i = n := by omega
    have hmk := hmono (min i rm) (Nat.min_le_right _ _)
    refine C.exit ?_
    refine C.seq ?_
    refine C.seq ?_
    refine C.region ?_
    refine G.moveP rfl trivial rfl rfl rfl ?_
    refine G.call E13 rfl rfl trivial rfl rfl (wa_cut W0 _ bg bs bd bl 0 1 [] (U (min i rm)) d1 sg sp hw (by decide) (by decide)) rfl ?_
    rintro e L2 ⟨sg3, sp3, d3, rfl, hw3, rfl⟩
    rw [hUs, size_nil] at hw3
    refine G.bin rfl trivial rfl rfl rfl rfl rfl ?_
    refine G.moveB rfl trivial rfl rfl rfl ?_
    refine G.no (t := 63) rfl (by simp) ?_
    refine G.moveP rfl ⟨_, rfl, rfl, rfl⟩ rfl rfl rfl ?_
    refine G.moveI rfl ⟨_, rfl, rfl, rfl⟩ rfl rfl rfl ?_
    refine G.call E14 rfl rfl ⟨_, rfl, rfl, rfl⟩ rfl rfl (wa_fits W0 [] _ bg bs bd _ _ [] [] d3 sg3 sp3 hw3 (by omega) sz (by omega)) rfl ?_
    rintro e L2 ⟨rfl, rfl⟩
    rw [decide_eq_true (show (1 ≤ sz ∧ sz ≤ 60000 ∧ sz + 4 + (size [] + size []) ≤ 65536) by rw [size_nil]; omega)]
    first | refine G.notD rfl ⟨_, rfl, rfl, rfl⟩ rfl rfl rfl ?_ | refine G.not rfl ⟨_, rfl, rfl, rfl⟩ rfl rfl rfl ?_
    first | refine G.pickT rfl trivial rfl rfl rfl rfl ?_ | refine G.pickF rfl trivial rfl rfl rfl rfl ?_
    refine G.fix (d := 68) (v := .bool false) rfl ?_
    refine G.nil ?_
    refine C.condF rfl ?_
    refine C.skip ?_
    refine C.seq ?_
    refine C.region ?_
    refine G.moveP rfl trivial rfl rfl rfl ?_
    refine G.moveI rfl trivial rfl rfl rfl ?_
    refine G.makeBytes (l := sz) (c := sz) rfl trivial rfl rfl Try.underlying31 I5 rfl rfl (by omega) ?_
    intro b72
    refine G.less (fun _ h => h.perm2) ?_
    refine G.call E12 rfl rfl trivial rfl rfl (wa_append W0 _ bg bs bd _ _ [] [] d3 sg3 sp3 hw3 (by omega) _ sz sz (List.replicate sz 0) hzl.symm (by rw [hzl]; omega) (by rw [hzl, size_nil]; omega) (fun _ => Rd.row0 (.app .here))) rfl ?_
    rintro e L2 ⟨sg4, hw4, rfl, rfl⟩
    rw [hzl, size_nil]
    refine G.moveU rfl trivial rfl rfl rfl ?_
    refine G.extractL rfl trivial rfl rfl rfl rfl ?_
    refine G.extractL rfl trivial rfl rfl rfl rfl ?_
    refine G.assignI rfl trivial rfl rfl rfl ?_
    refine G.assignI rfl trivial rfl rfl rfl ?_
    refine G.nil ?_
    refine C.seq ?_
    refine C.region ?_
    refine G.moveI rfl trivial rfl rfl rfl ?_
    refine G.bin rfl trivial rfl rfl rfl rfl rfl ?_
    refine G.moveB rfl trivial rfl rfl rfl ?_
    refine G.yes (t := 78) rfl rfl ?_
    refine G.moveI rfl ⟨_, rfl, rfl, rfl⟩ rfl rfl rfl ?_
    refine G.moveI rfl ⟨_, rfl, rfl, rfl⟩ rfl rfl rfl ?_
    refine G.moveI rfl ⟨_, rfl, rfl, rfl⟩ rfl rfl rfl ?_
    refine G.min2 rfl ⟨_, rfl, rfl, rfl⟩ rfl rfl rfl rfl ?_
    refine G.fix (d := 82) (v := .int .i64 ((min i rm : Nat) : Int)) (by show Value.int .i64 _ = _; congr 1; split <;> omega) ?_
    have hkl : min i rm ≤ 80 := by omega
    generalize hk : min i rm = k at *
    generalize hq : k * (sz + 4) = q at *
    refine G.add rfl ⟨_, rfl, rfl, rfl⟩ rfl rfl rfl rfl (by omega) ?_
    refine G.fix (d := 83) (v := .int .i64 ((k + 1 : Nat) : Int)) (by show Value.int .i64 _ = _; congr 1) ?_
    refine G.moveI rfl ⟨_, rfl, rfl, rfl⟩ rfl rfl rfl ?_
    refine G.add rfl ⟨_, rfl, rfl, rfl⟩ rfl rfl rfl rfl (by omega) ?_
    refine G.fix (d := 85) (v := .int .i64 ((sz + 4 : Nat) : Int)) (by show Value.int .i64 _ = _; congr 1) ?_
    have hmul : ((k + 1 : Nat) : Int) * ((sz + 4 : Nat) : Int) = ((q + (sz + 4) : Nat) : Int) := by rw [← Int.natCast_mul, Nat.succ_mul, hq]
    refine G.mul rfl ⟨_, rfl, rfl, rfl⟩ rfl rfl rfl rfl (by rw [hmul]; omega) ?_
    refine G.fix (d := 86) (v := .int .i64 ((q + (sz + 4) : Nat) : Int)) (by show Value.int .i64 _ = _; rw [hmul]) ?_
    refine G.bin rfl ⟨_, rfl, rfl, rfl⟩ rfl rfl rfl rfl rfl ?_
    first | refine G.pickT rfl trivial rfl rfl rfl rfl ?_ | refine G.pickF rfl trivial rfl rfl rfl rfl ?_
    refine G.moveB rfl trivial rfl rfl rfl ?_
    refine G.yes (t := 89) rfl (by omega) ?_
    refine G.moveP rfl ⟨_, rfl, rfl, rfl⟩ rfl rfl rfl ?_
    refine G.call E15 rfl rfl ⟨_, rfl, rfl, rfl⟩ rfl rfl (wa_base W0 [] _ bg bs bd _ _ [] _ d3 sg4 sp3 hw4) rfl ?_
    rintro e L2 ⟨rfl, rfl⟩
    refine G.moveI rfl ⟨_, rfl, rfl, rfl⟩ rfl rfl rfl ?_
    refine G.moveI rfl ⟨_, rfl, rfl, rfl⟩ rfl rfl rfl ?_
    refine G.add rfl ⟨_, rfl, rfl, rfl⟩ rfl rfl rfl rfl (by omega) ?_
    refine G.sub rfl ⟨_, rfl, rfl, rfl⟩ rfl rfl rfl rfl (by omega) ?_
    refine G.bin rfl ⟨_, rfl, rfl, rfl⟩ rfl rfl rfl rfl rfl ?_
    first | refine G.pickT rfl trivial rfl rfl rfl rfl ?_ | refine G.pickF rfl trivial rfl rfl rfl rfl ?_
    refine G.yes (t := 97) rfl (by omega) ?_
    refine G.assignB rfl trivial rfl rfl rfl ?_
    refine G.nil ?_
    refine C.ret ?_
    -- end c3F
    exact ⟨rfl, _, Res.of (rs := [.tmp 4]) rfl rfl, rfl⟩
theorem full_walk_no (W0 : World) (sz n : Int) (h : ¬ (1000 ≤ sz ∧ sz ≤ 60000 ∧ 0 ≤ n ∧ n ≤ 80)) :
    FnS Try.prog W0 3 #[.int .i64 sz, .int .i64 n] [] (fun e _ => e = .returned (.bool true)) := by
  refine FnS.of (args := [.int .i64 sz, .int .i64 n]) Try.func3 rfl rfl ?_
  refine C.seq ?_
  refine C.region ?_
  refine G.assignB rfl trivial rfl rfl rfl ?_
  refine G.nil ?_
  refine C.seq ?_
  refine C.region ?_
  refine G.call E9 rfl rfl trivial rfl rfl (beganW_spec W0 _) rfl ?_
  rintro e L2 ⟨rfl, rfl⟩
  refine G.assignB rfl trivial rfl rfl rfl ?_
  refine G.nil ?_
  refine C.seq ?_
  refine C.seq ?_
  refine C.region ?_
  refine G.moveB rfl trivial rfl rfl rfl ?_
  first | refine G.notD rfl trivial rfl rfl rfl ?_ | refine G.not rfl trivial rfl rfl rfl ?_
  refine G.fix (d := 17) (v := .bool false) rfl ?_
  refine G.nil ?_
  refine C.condF rfl ?_
  refine C.skip ?_
  refine C.seq ?_
  refine C.seq ?_
  refine C.region ?_
  refine G.moveI rfl trivial rfl rfl rfl ?_
  refine G.bin rfl trivial rfl rfl rfl rfl rfl ?_
  refine G.moveB rfl trivial rfl rfl rfl ?_
  refine G.fork (t := 20) _ rfl ?_ ?_
  · intro hg20
    refine G.skip rfl rfl rfl rfl rfl rfl ?_
    refine G.skip rfl rfl rfl rfl rfl rfl ?_
    first | refine G.pickT rfl trivial rfl rfl rfl rfl ?_ | refine G.pickF rfl trivial rfl rfl rfl rfl ?_
    refine G.moveB rfl trivial rfl rfl rfl ?_
    refine G.skip rfl rfl rfl rfl rfl rfl ?_
    refine G.skip rfl rfl rfl rfl rfl rfl ?_
    first | refine G.pickT rfl trivial rfl rfl rfl rfl ?_ | refine G.pickF rfl trivial rfl rfl rfl rfl ?_
    refine G.moveB rfl trivial rfl rfl rfl ?_
    refine G.skip rfl rfl rfl rfl rfl rfl ?_
    refine G.skip rfl rfl rfl rfl rfl rfl ?_
    first | refine G.pickT rfl trivial rfl rfl rfl rfl ?_ | refine G.pickF rfl trivial rfl rfl rfl rfl ?_
    refine G.nil ?_
    refine C.condT rfl ?_
    refine C.seq ?_
    refine C.region ?_
    refine G.assignB rfl trivial rfl rfl rfl ?_
    refine G.nil ?_
    refine C.ret ?_
    -- end g20T
    exact ⟨rfl, _, Res.of (rs := [.tmp 4]) rfl rfl, rfl⟩
  · intro hg20
    refine G.moveI rfl ⟨_, rfl, rfl, rfl⟩ rfl rfl rfl ?_
    refine G.bin rfl ⟨_, rfl, rfl, rfl⟩ rfl rfl rfl rfl rfl ?_
    first | refine G.pickT rfl trivial rfl rfl rfl rfl ?_ | refine G.pickF rfl trivial rfl rfl rfl rfl ?_
    refine G.moveB rfl trivial rfl rfl rfl ?_
    refine G.fork (t := 24) _ rfl ?_ ?_
    · intro hg24
      refine G.skip rfl rfl rfl rfl rfl rfl ?_
      refine G.skip rfl rfl rfl rfl rfl rfl ?_
      first | refine G.pickT rfl trivial rfl rfl rfl rfl ?_ | refine G.pickF rfl trivial rfl rfl rfl rfl ?_
      refine G.moveB rfl trivial rfl rfl rfl ?_
      refine G.skip rfl rfl rfl rfl rfl rfl ?_
      refine G.skip rfl rfl rfl rfl rfl rfl ?_
      first | refine G.pickT rfl trivial rfl rfl rfl rfl ?_ | refine G.pickF rfl trivial rfl rfl rfl rfl ?_
      refine G.nil ?_
      refine C.condT rfl ?_
      refine C.seq ?_
      refine C.region ?_
      refine G.assignB rfl trivial rfl rfl rfl ?_
      refine G.nil ?_
      refine C.ret ?_
      -- end g20Fg24T
      exact ⟨rfl, _, Res.of (rs := [.tmp 4]) rfl rfl, rfl⟩
    · intro hg24
      refine G.moveI rfl ⟨_, rfl, rfl, rfl⟩ rfl rfl rfl ?_
      refine G.bin rfl ⟨_, rfl, rfl, rfl⟩ rfl rfl rfl rfl rfl ?_
      first | refine G.pickT rfl trivial rfl rfl rfl rfl ?_ | refine G.pickF rfl trivial rfl rfl rfl rfl ?_
      refine G.moveB rfl trivial rfl rfl rfl ?_
      refine G.fork (t := 28) _ rfl ?_ ?_
      · intro hg28
        refine G.skip rfl rfl rfl rfl rfl rfl ?_
        refine G.skip rfl rfl rfl rfl rfl rfl ?_
        first | refine G.pickT rfl trivial rfl rfl rfl rfl ?_ | refine G.pickF rfl trivial rfl rfl rfl rfl ?_
        refine G.nil ?_
        refine C.condT rfl ?_
        refine C.seq ?_
        refine C.region ?_
        refine G.assignB rfl trivial rfl rfl rfl ?_
        refine G.nil ?_
        refine C.ret ?_
        -- end g20Fg24Fg28T
        exact ⟨rfl, _, Res.of (rs := [.tmp 4]) rfl rfl, rfl⟩
      · intro hg28
        refine G.moveI rfl ⟨_, rfl, rfl, rfl⟩ rfl rfl rfl ?_
        refine G.bin rfl ⟨_, rfl, rfl, rfl⟩ rfl rfl rfl rfl rfl ?_
        first | refine G.pickT rfl trivial rfl rfl rfl rfl ?_ | refine G.pickF rfl trivial rfl rfl rfl rfl ?_
        refine G.nil ?_
        refine C.yes rfl (by omega) ?_
        refine C.seq ?_
        refine C.region ?_
        refine G.assignB rfl trivial rfl rfl rfl ?_
        refine G.nil ?_
        refine C.ret ?_
        -- end g20Fg24Fg28F
        exact ⟨rfl, _, Res.of (rs := [.tmp 4]) rfl rfl, rfl⟩
end Go.Proofs.Ytjfjmhmfhkdcbaa
