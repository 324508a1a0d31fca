/-
  The law AllocAllOf, walked.
-/
import Derived.Test.YtoegcjgdaikfiaaAl4
namespace Go.Proofs.Ytoegcjgdaikfiaa
open Go Go.SL Go.RowKit

theorem Us.congr {pg : Nat → List UInt8} {u v : Nat → Bool} {r : Nat} (h : Us pg u r) (hv : ∀ k, k < 32 → u k = v k) : Us pg v r := ⟨h.len, fun k hk => (h.used k hk).trans (hv k hk), h.root⟩
theorem mod30 (z : Int) : ∃ k : Nat, k < 30 ∧ (z.tmod 30 + 30).tmod 30 = (k : Int) := by
  have h1 := Int.tmod_lt_of_pos z (show (0 : Int) < 30 by decide)
  have h2 : -30 < z.tmod 30 := Int.lt_tmod_of_pos z (by decide)
  refine ⟨((z.tmod 30 + 30).tmod 30).toNat, ?_, ?_⟩
  · have h3 := Int.tmod_lt_of_pos (z.tmod 30 + 30) (show (0 : Int) < 30 by decide)
    omega
  · have h4 := Int.tmod_nonneg (a := z.tmod 30 + 30) 30 (by omega)
    omega
theorem tmod30 (z : Int) : -30 < z.tmod 30 ∧ z.tmod 30 < 30 := ⟨Int.lt_tmod_of_pos z (by decide), Int.tmod_lt_of_pos z (by decide)⟩
theorem counts30 : (List.range 30).all (fun n => (List.range 32).countP (fun k => decide (2 ≤ k) && decide (2 ≤ k ∧ k < 2 + n)) == n) = true := by kernel_rfl
def upTo (i : Nat) : Nat → Bool := fun j => decide (2 ≤ j ∧ j < 2 + i)
theorem bool_ext {a b : Bool} (h : a = true ↔ b = true) : a = b := by cases a <;> cases b <;> simp_all
section laws
variable (W0 : World)
theorem allOf_walk (a1 : Option Addr) (c1 n : Nat) (zs : List Int) (hn : n ≤ 40) (hz : zs.length ≤ 9223372036854775807) (r1 : ∀ L, Rd W0 L a1 (zs.map (Value.int .i64))) :
    FnS Try.prog W0 5 #[.int .i64 (n : Int), .slice a1 zs.length c1] [] (fun e _ => e = .returned (.bool true)) := by
  obtain ⟨p0, hp0⟩ : ∃ p, p = bkPage none := ⟨_, rfl⟩
  have us0 : Us p0 (upTo 0) 0 := by rw [hp0]; exact us_start.congr (fun k _ => (decide_eq_false (by omega)).symm)
  refine FnS.of (args := [.int .i64 (n : Int), .slice a1 zs.length c1]) Try.func5 rfl rfl ?_
  refine C.seq ?_
  refine C.region ?_
  refine G.assignB rfl trivial rfl rfl rfl ?_
  refine G.nil ?_
  refine C.seq ?_
  refine C.region ?_
  refine G.call E8 rfl rfl trivial rfl rfl (beganA_spec W0 _) rfl ?_
  rintro e L2 ⟨rfl, rfl⟩
  refine G.assignB rfl trivial rfl rfl rfl ?_
  refine G.nil ?_
  refine C.seq ?_
  refine C.seq ?_
  refine C.region ?_
  refine G.moveB rfl trivial rfl rfl rfl ?_
  first | refine G.notD rfl trivial rfl rfl rfl ?_ | refine G.not rfl trivial rfl rfl rfl ?_
  refine G.nil ?_
  refine C.condF rfl ?_
  refine C.skip ?_
  refine C.seq ?_
  refine C.seq ?_
  refine C.region ?_
  refine G.moveI rfl trivial rfl rfl rfl ?_
  refine G.bin rfl trivial rfl rfl rfl rfl rfl ?_
  refine G.moveB rfl trivial rfl rfl rfl ?_
  refine G.no (t := 21) rfl (by omega) ?_
  refine G.moveI rfl ⟨_, rfl, rfl, rfl⟩ rfl rfl rfl ?_
  refine G.bin rfl ⟨_, rfl, rfl, rfl⟩ rfl rfl rfl rfl rfl ?_
  first | refine G.pickT rfl trivial rfl rfl rfl rfl ?_ | refine G.pickF rfl trivial rfl rfl rfl rfl ?_
  refine G.nil ?_
  refine C.no rfl (by omega) ?_
  refine C.skip ?_
  refine C.seq ?_
  refine C.region ?_
  refine G.buildL (cs := bkRow none) rfl trivial rfl rfl Try.underlying28 I28 B28 rfl (by kernel_rfl) ?_
  refine G.boxG rfl trivial rfl rfl rfl ?_
  intro bb
  rw [bkRow_length]
  refine G.makeInterface rfl trivial rfl rfl Try.underlying24 rfl ?_
  refine G.call E9 rfl rfl trivial rfl rfl (snew_spec W0 [] bb none trivial) rfl ?_
  rintro e L2 ⟨bs, sg0, hsg0, rfl, rfl⟩
  rw [← hp0] at hsg0
  refine G.assignP rfl trivial rfl rfl rfl ?_
  refine G.nil ?_
  refine C.seq ?_
  refine C.seq ?_
  refine C.region ?_
  refine G.assignI rfl trivial rfl rfl rfl ?_
  refine G.nil ?_
  refine C.block ?_
  refine C.loop (fun m F D' L' => ∃ (i : Nat) (pg : Nat → List UInt8) (sg : Seg), i ≤ n ∧ Sh none bs pg sg ∧ Us pg (upTo i) 0 ∧ m = n - i ∧ F 7 = .int .i64 i ∧ F 6 = ptr bs ∧ F 0 = .int .i64 n ∧ F 1 = .slice a1 zs.length c1 ∧ D' = [] ∧ sg :: [] = L') ⟨_, ⟨0, p0, sg0, by omega, hsg0, us0, rfl, rfl, rfl, rfl, rfl, rfl, rfl⟩⟩ ?_
  rintro m F D' L' ⟨i, pg, sg, hi, hsg, us, rfl, h7, h6, h0', h1', rfl, rfl⟩
  refine C.fix (d := 7) h7 ?_
  refine C.fix (d := 6) h6 ?_
  refine C.fix (d := 0) h0' ?_
  refine C.fix (d := 1) h1' ?_
  refine C.seq ?_
  refine C.seq ?_
  refine C.region ?_
  refine G.moveI rfl trivial rfl rfl rfl ?_
  refine G.moveI rfl trivial rfl rfl rfl ?_
  refine G.bin rfl trivial rfl rfl rfl rfl rfl ?_
  refine G.nil ?_
  refine C.cond _ rfl ?_ ?_
  · intro hc2
    have hlt : i < n := by omega
    refine C.skip ?_
    refine C.seq ?_
    refine C.block ?_
    refine C.seq ?_
    refine C.region ?_
    refine G.moveP rfl trivial rfl rfl rfl ?_
    by_cases hi30 : i < 30
    ·
      have hfree : usedP (pg 1) (2 + i) = false := (us.used _ (by omega)).trans (decide_eq_false (by omega))
      have hall : ∀ j, 2 ≤ j → j < 2 + i → usedP (pg 1) j = true := fun j h1 h2 => (us.used _ (by omega)).trans (decide_eq_true (by omega))
      refine G.call E10 rfl rfl trivial rfl rfl (take_some W0 [] _ bs pg sg hsg us.len (2 + i) (by omega) hfree hall) rfl ?_
      rintro e L2 ⟨sg1, hsg1, rfl, rfl⟩
      have us1 := (us.taken (k := 2 + i) (by omega)).congr (v := upTo (i + 1)) (fun k hk => bool_ext (by unfold upTo; rw [Bool.or_eq_true, decide_eq_true_iff, decide_eq_true_iff, decide_eq_true_iff]; omega))
      generalize updP (updP pg 1 (setU (pg 1) (2 + i))) (2 + i) zero256 = p1 at *
      refine G.moveU rfl trivial rfl rfl rfl ?_
      refine G.extractL rfl trivial rfl rfl rfl rfl ?_
      refine G.extractL rfl trivial rfl rfl rfl rfl ?_
      refine G.assignI rfl trivial rfl rfl rfl ?_
      refine G.assignI rfl trivial rfl rfl rfl ?_
      refine G.nil ?_
      refine C.seq ?_
      refine C.region ?_
      refine G.moveI rfl trivial rfl rfl rfl ?_
      refine G.bin rfl trivial rfl rfl rfl rfl rfl ?_
      refine G.moveB rfl trivial rfl rfl rfl ?_
      refine G.yes (t := 41) rfl (by omega) ?_
      refine G.moveI rfl ⟨_, rfl, rfl, rfl⟩ rfl rfl rfl ?_
      refine G.moveI rfl ⟨_, rfl, rfl, rfl⟩ rfl rfl rfl ?_
      refine G.add rfl ⟨_, rfl, rfl, rfl⟩ rfl rfl rfl rfl (by omega) ?_
      refine G.bin rfl ⟨_, rfl, rfl, rfl⟩ rfl rfl rfl rfl rfl ?_
      refine G.no (t := 45) rfl (by omega) ?_
      refine G.moveB rfl ⟨_, rfl, rfl, rfl⟩ rfl rfl rfl ?_
      refine G.moveI rfl ⟨_, rfl, rfl, rfl⟩ rfl rfl rfl ?_
      refine G.bin rfl ⟨_, rfl, rfl, rfl⟩ rfl rfl rfl rfl rfl ?_
      refine G.no (t := 48) rfl (by simp) ?_
      first | refine G.pickT rfl ⟨_, rfl, rfl, rfl⟩ rfl rfl rfl rfl ?_ | refine G.pickF rfl ⟨_, rfl, rfl, rfl⟩ rfl rfl rfl rfl ?_
      first | refine G.pickT rfl trivial rfl rfl rfl rfl ?_ | refine G.pickF rfl trivial rfl rfl rfl rfl ?_
      refine G.moveB rfl trivial rfl rfl rfl ?_
      refine G.moveI rfl ⟨_, rfl, rfl, rfl⟩ rfl rfl rfl ?_
      refine G.bin rfl ⟨_, rfl, rfl, rfl⟩ rfl rfl rfl rfl rfl ?_
      refine G.moveB rfl ⟨_, rfl, rfl, rfl⟩ rfl rfl rfl ?_
      refine G.no (t := 54) rfl (by omega) ?_
      refine G.skip rfl rfl rfl rfl rfl rfl ?_
      refine G.skip rfl rfl rfl rfl rfl rfl ?_
      refine G.skip rfl rfl rfl rfl rfl rfl ?_
      refine G.skipU rfl rfl rfl rfl rfl rfl ?_
      refine G.skipU rfl rfl rfl rfl rfl rfl ?_
      refine G.skip rfl rfl rfl rfl rfl rfl ?_
      first | refine G.pickT rfl ⟨_, rfl, rfl, rfl⟩ rfl rfl rfl rfl ?_ | refine G.pickF rfl ⟨_, rfl, rfl, rfl⟩ rfl rfl rfl rfl ?_
      first | refine G.pickT rfl trivial rfl rfl rfl rfl ?_ | refine G.pickF rfl trivial rfl rfl rfl rfl ?_
      refine G.nil ?_
      refine C.condF rfl ?_
      refine C.skip ?_
      refine C.region ?_
      refine G.moveI rfl trivial rfl rfl rfl ?_
      refine G.add rfl trivial rfl rfl rfl rfl (by omega) ?_
      refine G.assignI rfl trivial rfl rfl rfl ?_
      refine G.nil ?_
      exact ⟨n - (i + 1), by omega, i + 1, p1, sg1, by omega, hsg1, us1, rfl, rfl, rfl, rfl, rfl, rfl, rfl⟩
    ·
      have hall : ∀ j, 2 ≤ j → j < 32 → usedP (pg 1) j = true := fun j h1 h2 => (us.used _ (by omega)).trans (decide_eq_true (by omega))
      refine G.call E10 rfl rfl trivial rfl rfl (take_full W0 [] _ bs pg sg hsg us.len hall) rfl ?_
      rintro e L2 ⟨rfl, rfl⟩
      have us1 := us.congr (v := upTo (i + 1)) (fun k hk => bool_ext (by unfold upTo; rw [decide_eq_true_iff, decide_eq_true_iff]; omega))
      refine G.moveU rfl trivial rfl rfl rfl ?_
      refine G.extractL rfl trivial rfl rfl rfl rfl ?_
      refine G.extractL rfl trivial rfl rfl rfl rfl ?_
      refine G.assignI rfl trivial rfl rfl rfl ?_
      refine G.assignI rfl trivial rfl rfl rfl ?_
      refine G.nil ?_
      refine C.seq ?_
      refine C.region ?_
      refine G.moveI rfl trivial rfl rfl rfl ?_
      refine G.bin rfl trivial rfl rfl rfl rfl rfl ?_
      refine G.moveB rfl trivial rfl rfl rfl ?_
      refine G.no (t := 41) rfl (by omega) ?_
      refine G.skip rfl rfl rfl rfl rfl rfl ?_
      refine G.skip rfl rfl rfl rfl rfl rfl ?_
      refine G.skip rfl rfl rfl rfl rfl rfl ?_
      refine G.skip rfl rfl rfl rfl rfl rfl ?_
      refine G.skip rfl rfl rfl rfl rfl rfl ?_
      refine G.skipU rfl rfl rfl rfl rfl rfl ?_
      refine G.skipU rfl rfl rfl rfl rfl rfl ?_
      refine G.skip rfl rfl rfl rfl rfl rfl ?_
      first | refine G.pickT rfl trivial rfl rfl rfl rfl ?_ | refine G.pickF rfl trivial rfl rfl rfl rfl ?_
      refine G.moveB rfl trivial rfl rfl rfl ?_
      refine G.moveI rfl ⟨_, rfl, rfl, rfl⟩ rfl rfl rfl ?_
      refine G.bin rfl ⟨_, rfl, rfl, rfl⟩ rfl rfl rfl rfl rfl ?_
      refine G.moveB rfl ⟨_, rfl, rfl, rfl⟩ rfl rfl rfl ?_
      refine G.yes (t := 54) rfl (by omega) ?_
      refine G.moveI rfl ⟨_, rfl, rfl, rfl⟩ rfl rfl rfl ?_
      refine G.bin rfl ⟨_, rfl, rfl, rfl⟩ rfl rfl rfl rfl rfl ?_
      refine G.no (t := 56) rfl (by simp) ?_
      refine G.moveB rfl ⟨_, rfl, rfl, rfl⟩ rfl rfl rfl ?_
      refine G.moveI rfl ⟨_, rfl, rfl, rfl⟩ rfl rfl rfl ?_
      refine G.bin rfl ⟨_, rfl, rfl, rfl⟩ rfl rfl rfl rfl rfl ?_
      refine G.no (t := 59) rfl (by simp) ?_
      first | refine G.pickT rfl ⟨_, rfl, rfl, rfl⟩ rfl rfl rfl rfl ?_ | refine G.pickF rfl ⟨_, rfl, rfl, rfl⟩ rfl rfl rfl rfl ?_
      first | refine G.pickT rfl ⟨_, rfl, rfl, rfl⟩ rfl rfl rfl rfl ?_ | refine G.pickF rfl ⟨_, rfl, rfl, rfl⟩ rfl rfl rfl rfl ?_
      first | refine G.pickT rfl trivial rfl rfl rfl rfl ?_ | refine G.pickF rfl trivial rfl rfl rfl rfl ?_
      refine G.nil ?_
      refine C.condF rfl ?_
      refine C.skip ?_
      refine C.region ?_
      refine G.moveI rfl trivial rfl rfl rfl ?_
      refine G.add rfl trivial rfl rfl rfl rfl (by omega) ?_
      refine G.assignI rfl trivial rfl rfl rfl ?_
      refine G.nil ?_
      exact ⟨n - (i + 1), by omega, i + 1, pg, sg, by omega, hsg, us1, rfl, rfl, rfl, rfl, rfl, rfl, rfl⟩
  · intro hc2
    obtain rfl : i = n := by omega
    refine C.exit ?_
    refine C.seq ?_
    refine C.seq ?_
    refine C.region ?_
    refine G.moveI rfl trivial rfl rfl rfl ?_
    refine G.bin rfl trivial rfl rfl rfl rfl rfl ?_
    refine G.nil ?_
    refine C.cond _ rfl ?_ ?_
    · intro hc4
      refine C.seq ?_
      refine C.region ?_
      refine G.moveP rfl trivial rfl rfl rfl ?_
      refine G.makeInterface rfl trivial rfl rfl Try.underlying29 rfl ?_
      refine G.call E16 rfl rfl trivial rfl rfl (count_spec W0 _ _ _ (pg 1) us.len (aread_sheet W0 [] _ bs pg sg hsg)) rfl ?_
      rintro e L2 ⟨rfl, rfl⟩
      rw [countU_of (v := fun k => decide (2 ≤ k) && decide (2 ≤ k ∧ k < 2 + i)) (fun k hk => us.has hk) 32 (Nat.le_refl _), show (List.range 32).countP (fun k => decide (2 ≤ k) && decide (2 ≤ k ∧ k < 2 + i)) = i from beq_iff_eq.1 (List.all_eq_true.1 counts30 i (List.mem_range.2 (by omega)))]
      refine G.moveU rfl trivial rfl rfl rfl ?_
      refine G.extractL rfl trivial rfl rfl rfl rfl ?_
      refine G.extractL rfl trivial rfl rfl rfl rfl ?_
      refine G.assignI rfl trivial rfl rfl rfl ?_
      refine G.assignI rfl trivial rfl rfl rfl ?_
      refine G.nil ?_
      refine C.seq ?_
      refine C.region ?_
      refine G.moveI rfl trivial rfl rfl rfl ?_
      refine G.moveI rfl trivial rfl rfl rfl ?_
      refine G.bin rfl trivial rfl rfl rfl rfl rfl ?_
      refine G.yes (t := 73) rfl rfl ?_
      refine G.moveB rfl trivial rfl rfl rfl ?_
      refine G.moveI rfl ⟨_, rfl, rfl, rfl⟩ rfl rfl rfl ?_
      refine G.bin rfl ⟨_, rfl, rfl, rfl⟩ rfl rfl rfl rfl rfl ?_
      refine G.yes (t := 76) rfl rfl ?_
      first | refine G.pickT rfl trivial rfl rfl rfl rfl ?_ | refine G.pickF rfl trivial rfl rfl rfl rfl ?_
      refine G.assignB rfl trivial rfl rfl rfl ?_
      refine G.nil ?_
      refine C.ret ?_
      -- end c2Fc4T
      exact ⟨rfl, _, Res.of (rs := [.tmp 4]) rfl rfl, rfl⟩
    · intro hc4
      have us2 := us.congr (v := fun j => decide (2 ≤ j)) (fun k hk => decide_eq_decide.2 (by omega))
      refine C.skip ?_
      refine C.seq ?_
      refine C.seq ?_
      refine C.region ?_
      refine G.assignI rfl trivial rfl rfl rfl ?_
      refine G.nil ?_
      refine C.block ?_
      refine C.loop (fun m F D' L' => ∃ (j : Nat) (qg : Nat → List UInt8) (sh : Seg), j ≤ zs.length ∧ Sh none bs qg sh ∧ Us qg (fun j => decide (2 ≤ j)) 0 ∧ m = zs.length - j ∧ F 12 = .int .i64 j ∧ F 6 = ptr bs ∧ F 1 = .slice a1 zs.length c1 ∧ D' = [] ∧ sh :: [] = L') ⟨_, ⟨0, pg, sg, by omega, hsg, us2, rfl, rfl, rfl, rfl, rfl, rfl⟩⟩ ?_
      rintro m F D' L' ⟨j, qg, sh, hj, hsh, uq, rfl, h12, h6, h1', rfl, rfl⟩
      refine C.fix (d := 12) h12 ?_
      refine C.fix (d := 6) h6 ?_
      refine C.fix (d := 1) h1' ?_
      refine C.seq ?_
      refine C.seq ?_
      refine C.region ?_
      refine G.moveI rfl trivial rfl rfl rfl ?_
      refine G.moveS rfl trivial rfl rfl rfl ?_
      refine G.lenSlice rfl trivial rfl rfl Try.underlying47 rfl ?_
      refine G.bin rfl trivial rfl rfl rfl rfl rfl ?_
      refine G.moveB rfl trivial rfl rfl rfl ?_
      refine G.fork (t := 82) _ rfl ?_ ?_
      · intro hg82
        refine G.moveI rfl ⟨_, rfl, rfl, rfl⟩ rfl rfl rfl ?_
        refine G.bin rfl ⟨_, rfl, rfl, rfl⟩ rfl rfl rfl rfl rfl ?_
        first | refine G.pickT rfl trivial rfl rfl rfl rfl ?_ | refine G.pickF rfl trivial rfl rfl rfl rfl ?_
        refine G.nil ?_
        refine C.cond _ rfl ?_ ?_
        · intro hc5
          have hlt : j < zs.length := by omega
          obtain ⟨p1, o1, rfl, _⟩ := (r1 []).some_ (by simp; omega)
          have ht := tmod30 zs[j]
          obtain ⟨k, hk, hk2⟩ := mod30 zs[j]
          refine C.skip ?_
          refine C.seq ?_
          refine C.block ?_
          refine C.seq ?_
          refine C.region ?_
          refine G.moveS rfl trivial rfl rfl rfl ?_
          refine G.moveI rfl trivial rfl rfl rfl ?_
          refine G.indexAddr rfl trivial rfl rfl Try.underlying47 I3 rfl rfl (by omega) ?_
          refine G.load (v := .int .i64 zs[j]) rfl trivial rfl rfl Try.underlying3 rfl rfl (fun w hm => Rd.ints_at r1 hlt w hm) ?_
          refine G.rem rfl trivial rfl rfl rfl rfl (by decide) ?_
          refine G.add rfl trivial rfl rfl rfl rfl (by omega) ?_
          refine G.rem rfl trivial rfl rfl rfl rfl (by decide) ?_
          rw [hk2]
          refine G.add rfl trivial rfl rfl rfl rfl (by omega) ?_
          refine G.fix (d := 95) (v := .int .i64 ((2 + k : Nat) : Int)) (by show Value.int .i64 _ = _; congr 1) ?_
          refine G.assignI rfl trivial rfl rfl rfl ?_
          refine G.nil ?_
          refine C.seq ?_
          refine C.seq ?_
          refine C.region ?_
          refine G.moveP rfl trivial rfl rfl rfl ?_
          refine G.moveI rfl trivial rfl rfl rfl ?_
          refine G.call E13 rfl rfl trivial rfl rfl (free_ok W0 [] _ bs qg sh hsh uq.len (2 + k) ((uq.has (by omega)).trans (by rw [decide_eq_true (show 2 ≤ 2 + k by omega)]; rfl))) rfl ?_
          rintro e L2 ⟨sh1, hsh1, rfl, rfl⟩
          have u1 := uq.freed (k := 2 + k) (by omega)
          generalize updP qg 1 (clrU (qg 1) (2 + k)) = q1 at *
          refine G.bin rfl trivial rfl rfl rfl rfl rfl ?_
          refine G.no (t := 99) rfl (by simp) ?_
          refine G.moveB rfl trivial rfl rfl rfl ?_
          refine G.moveP rfl ⟨_, rfl, rfl, rfl⟩ rfl rfl rfl ?_
          refine G.moveI rfl ⟨_, rfl, rfl, rfl⟩ rfl rfl rfl ?_
          refine G.call E13 rfl rfl ⟨_, rfl, rfl, rfl⟩ rfl rfl (free_none W0 [] _ bs q1 sh1 hsh1 u1.len ((2 + k : Nat) : Int) ((u1.has (by omega)).trans (by simp))) rfl ?_
          rintro e L2 ⟨rfl, rfl⟩
          refine G.bin rfl ⟨_, rfl, rfl, rfl⟩ rfl rfl rfl rfl rfl ?_
          refine G.no (t := 104) rfl (by simp) ?_
          first | refine G.pickT rfl trivial rfl rfl rfl rfl ?_ | refine G.pickF rfl trivial rfl rfl rfl rfl ?_
          refine G.nil ?_
          refine C.condF rfl ?_
          refine C.skip ?_
          refine C.seq ?_
          refine C.region ?_
          refine G.moveP rfl trivial rfl rfl rfl ?_
          refine G.call E10 rfl rfl trivial rfl rfl (take_some W0 [] _ bs q1 sh1 hsh1 u1.len (2 + k) (by omega) ((u1.used _ (by omega)).trans (by simp)) (fun i h1 h2 => (u1.used _ (by omega)).trans (by rw [decide_eq_true h1, decide_eq_false (by omega)]; rfl))) rfl ?_
          rintro e L2 ⟨sh2, hsh2, rfl, rfl⟩
          have u2 := (u1.taken (k := 2 + k) (by omega)).congr (v := fun j => decide (2 ≤ j)) (fun i hi => bool_ext (by rw [Bool.or_eq_true, Bool.and_eq_true, decide_eq_true_iff, decide_eq_true_iff, Bool.not_eq_true', decide_eq_false_iff_not]; omega))
          generalize updP (updP q1 1 (setU (q1 1) (2 + k))) (2 + k) zero256 = q2 at *
          refine G.moveU rfl trivial rfl rfl rfl ?_
          refine G.extractL rfl trivial rfl rfl rfl rfl ?_
          refine G.extractL rfl trivial rfl rfl rfl rfl ?_
          refine G.assignI rfl trivial rfl rfl rfl ?_
          refine G.assignI rfl trivial rfl rfl rfl ?_
          refine G.nil ?_
          refine C.seq ?_
          refine C.region ?_
          refine G.moveI rfl trivial rfl rfl rfl ?_
          refine G.moveI rfl trivial rfl rfl rfl ?_
          refine G.bin rfl trivial rfl rfl rfl rfl rfl ?_
          refine G.no (t := 113) rfl (by simp) ?_
          refine G.moveB rfl trivial rfl rfl rfl ?_
          refine G.moveI rfl ⟨_, rfl, rfl, rfl⟩ rfl rfl rfl ?_
          refine G.bin rfl ⟨_, rfl, rfl, rfl⟩ rfl rfl rfl rfl rfl ?_
          refine G.no (t := 116) rfl (by simp) ?_
          first | refine G.pickT rfl trivial rfl rfl rfl rfl ?_ | refine G.pickF rfl trivial rfl rfl rfl rfl ?_
          refine G.nil ?_
          refine C.condF rfl ?_
          refine C.skip ?_
          refine C.region ?_
          refine G.moveI rfl trivial rfl rfl rfl ?_
          refine G.add rfl trivial rfl rfl rfl rfl (by omega) ?_
          refine G.assignI rfl trivial rfl rfl rfl ?_
          refine G.nil ?_
          exact ⟨zs.length - (j + 1), by omega, j + 1, q2, sh2, by omega, hsh2, u2, rfl, rfl, rfl, rfl, rfl, rfl⟩
        · intro hc5
          refine C.exit ?_
          refine C.seq ?_
          refine C.region ?_
          refine G.assignB rfl trivial rfl rfl rfl ?_
          refine G.nil ?_
          refine C.ret ?_
          -- end c2Fc4Fg82Tc5F
          exact ⟨rfl, _, Res.of (rs := [.tmp 4]) rfl rfl, rfl⟩
      · intro hg82
        refine G.skip rfl rfl rfl rfl rfl rfl ?_
        refine G.skip rfl rfl rfl rfl rfl rfl ?_
        first | refine G.pickT rfl trivial rfl rfl rfl rfl ?_ | refine G.pickF rfl trivial rfl rfl rfl rfl ?_
        refine G.nil ?_
        refine C.condF rfl ?_
        refine C.exit ?_
        refine C.seq ?_
        refine C.region ?_
        refine G.assignB rfl trivial rfl rfl rfl ?_
        refine G.nil ?_
        refine C.ret ?_
        -- end c2Fc4Fg82F
        exact ⟨rfl, _, Res.of (rs := [.tmp 4]) rfl rfl, rfl⟩
theorem allOf_walk_no (a1 : Option Addr) (m1 c1 : Nat) (n : Int) (h : ¬ (0 ≤ n ∧ n ≤ 40)) :
    FnS Try.prog W0 5 #[.int .i64 n, .slice a1 m1 c1] [] (fun e _ => e = .returned (.bool true)) := by
  refine FnS.of (args := [.int .i64 n, .slice a1 m1 c1]) Try.func5 rfl rfl ?_
  refine C.seq ?_
  refine C.region ?_
  refine G.assignB rfl trivial rfl rfl rfl ?_
  refine G.nil ?_
  refine C.seq ?_
  refine C.region ?_
  refine G.call E8 rfl rfl trivial rfl rfl (beganA_spec W0 _) rfl ?_
  rintro e L2 ⟨rfl, rfl⟩
  refine G.assignB rfl trivial rfl rfl rfl ?_
  refine G.nil ?_
  refine C.seq ?_
  refine C.seq ?_
  refine C.region ?_
  refine G.moveB rfl trivial rfl rfl rfl ?_
  first | refine G.notD rfl trivial rfl rfl rfl ?_ | refine G.not rfl trivial rfl rfl rfl ?_
  refine G.nil ?_
  refine C.condF rfl ?_
  refine C.skip ?_
  refine C.seq ?_
  refine C.seq ?_
  refine C.region ?_
  refine G.moveI rfl trivial rfl rfl rfl ?_
  refine G.bin rfl trivial rfl rfl rfl rfl rfl ?_
  refine G.moveB rfl trivial rfl rfl rfl ?_
  refine G.fork (t := 21) _ rfl ?_ ?_
  · intro hg21
    refine G.skip rfl rfl rfl rfl rfl rfl ?_
    refine G.skip rfl rfl rfl rfl rfl rfl ?_
    first | refine G.pickT rfl trivial rfl rfl rfl rfl ?_ | refine G.pickF rfl trivial rfl rfl rfl rfl ?_
    refine G.nil ?_
    refine C.condT rfl ?_
    refine C.seq ?_
    refine C.region ?_
    refine G.assignB rfl trivial rfl rfl rfl ?_
    refine G.nil ?_
    refine C.ret ?_
    -- end g21T
    exact ⟨rfl, _, Res.of (rs := [.tmp 4]) rfl rfl, rfl⟩
  · intro hg21
    refine G.moveI rfl ⟨_, rfl, rfl, rfl⟩ rfl rfl rfl ?_
    refine G.bin rfl ⟨_, rfl, rfl, rfl⟩ rfl rfl rfl rfl rfl ?_
    first | refine G.pickT rfl trivial rfl rfl rfl rfl ?_ | refine G.pickF rfl trivial rfl rfl rfl rfl ?_
    refine G.nil ?_
    refine C.cond _ rfl ?_ ?_
    · intro hc1
      refine C.seq ?_
      refine C.region ?_
      refine G.assignB rfl trivial rfl rfl rfl ?_
      refine G.nil ?_
      refine C.ret ?_
      -- end g21Fc1T
      exact ⟨rfl, _, Res.of (rs := [.tmp 4]) rfl rfl, rfl⟩
    · intro hc1
      omega
end laws
end Go.Proofs.Ytoegcjgdaikfiaa
