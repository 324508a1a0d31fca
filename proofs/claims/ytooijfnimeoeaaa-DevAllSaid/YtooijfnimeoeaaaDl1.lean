/-
  The laws DevFuse and DevTwice, walked.
-/
import Derived.Test.YtooijfnimeoeaaaDl0
namespace Go.Proofs.Ytooijfnimeoeaaa
open Go Go.SL Go.RowKit

theorem u8_ofD (i : Nat) : Value.int .u8 (IntKind.u8.wrap (i : Int)) = .int .u8 ((UInt8.ofNat i).toNat : Int) := by
  have h1 : IntKind.u8.wrap (i : Int) = ((i % 256 : Nat) : Int) := by
    simp only [IntKind.wrap, IntKind.bits, IntKind.signed]
    simp
  rw [h1]
  congr 2
theorem inc_nat (n : Nat) (h : n < 1000000) : inc (n : Int) = ((n + 1 : Nat) : Int) := by
  unfold inc
  rw [wrap_i64 (by omega)]
  omega
/-- a device with a fuse behind i calls -/
structure Fz (d : Dv) (i f : Nat) : Prop where
  ok : d.ok
  len : d.l.length = 4
  calls : d.calls = (min i f : Nat)
  lit : d.lit = true
  fuse : d.fuse = ((f - i : Nat) : Int)
  dead : i < f → d.dead = false
theorem Fz.isDead {d : Dv} {i f : Nat} (h : Fz d i f) : d.isDead = decide (f ≤ i) := by
  by_cases hi : f ≤ i
  · rw [decide_eq_true hi]
    simp only [Dv.isDead, h.lit, h.fuse, show f - i = 0 by omega]
    simp
  · rw [decide_eq_false hi]
    simp only [Dv.isDead, h.lit, h.fuse, h.dead (by omega)]
    simp
    omega
theorem Fz.late {d : Dv} {i f : Nat} (h : Fz d i f) (hi : f ≤ i) : Fz d (i + 1) f := ⟨h.ok, h.len, by rw [h.calls]; congr 1; omega, h.lit, by rw [h.fuse]; congr 1; omega, fun h2 => by omega⟩
theorem Fz.burn {d : Dv} {i f : Nat} (h : Fz d i f) (hi : i < f) (hf : f ≤ 40) : d.burn.calls = (min (i + 1) f : Nat) ∧ d.burn.lit = true ∧ d.burn.fuse = ((f - (i + 1) : Nat) : Int) ∧ d.burn.dead = false := by
  refine ⟨?_, h.lit, ?_, h.dead hi⟩
  · show inc d.calls = _
    rw [h.calls, inc_nat _ (by omega)]
    congr 1
    omega
  · show (if d.lit then d.fuse - 1 else d.fuse) = _
    rw [h.lit, if_pos rfl, h.fuse]
    omega
theorem Fz.put {d : Dv} {i f : Nat} (h : Fz d i f) (hi : i < f) (hf : f ≤ 40) (j : Nat) {b : List UInt8} (hb : b.length ≤ 64) : Fz (d.put j b) (i + 1) f := by
  obtain ⟨h1, h2, h3, h4⟩ := h.burn hi hf
  exact ⟨Dv.put_ok h.ok (by rw [h.isDead]; exact decide_eq_false (by omega)) hb, by show (d.l.modify _ _).length = 4; rw [List.length_modify]; exact h.len, h1, h2, h3, fun _ => h4⟩
theorem Fz.flush {d : Dv} {i f : Nat} (h : Fz d i f) (hi : i < f) (hf : f ≤ 40) : Fz d.flush (i + 1) f := by
  obtain ⟨h1, h2, h3, h4⟩ := h.burn hi hf
  exact ⟨Dv.flush_ok h.ok (by rw [h.isDead]; exact decide_eq_false (by omega)), by show (d.l.map _).length = 4; rw [List.length_map]; exact h.len, h1, h2, h3, fun _ => h4⟩
theorem fz_start {f : Nat} (hf : f ≤ 40) : Fz ((newDv 4).setFuse f) 0 f := by
  refine ⟨Dv.setFuse_ok (newDv_ok (by decide)) (by omega), rfl, by rw [show min 0 f = 0 by omega]; rfl, ?_, ?_, ?_⟩
  · show decide ((f : Int) ≥ 0) = true
    exact decide_eq_true (by omega)
  · show (if 0 > (f : Int) then 0 else (f : Int)) = _
    rw [if_neg (by omega)]
    omega
  · intro h
    show ((newDv 4).isDead || decide ((f : Int) = 0)) = false
    rw [show (newDv 4).isDead = false from rfl, show decide ((f : Int) = 0) = false from decide_eq_false (by omega)]
    rfl
theorem fuse_walk (W0 : World) (n f : Nat) (hn : n ≤ 30) (hf : f ≤ 40) :
    FnS Try.prog W0 7 #[.int .i64 (n : Int), .int .i64 (f : Int)] [] (fun e _ => e = .returned (.bool true)) := by
  refine FnS.of (args := [.int .i64 (n : Int), .int .i64 (f : Int)]) Try.func7 rfl rfl ?_
  refine C.seq ?_
  refine C.region ?_
  refine G.assignB rfl trivial rfl rfl rfl ?_
  refine G.nil ?_
  refine C.seq ?_
  refine C.region ?_
  refine G.call E9 rfl rfl trivial rfl rfl (beganD_spec W0 _) rfl ?_
  rintro e L2 ⟨rfl, rfl⟩
  refine G.assignB rfl trivial rfl rfl rfl ?_
  refine G.nil ?_
  refine C.seq ?_
  refine C.seq ?_
  refine C.region ?_
  refine G.moveB rfl trivial rfl rfl rfl ?_
  first | refine G.notD rfl trivial rfl rfl rfl ?_ | refine G.not rfl trivial rfl rfl rfl ?_
  refine G.nil ?_
  refine C.condF rfl ?_
  refine C.skip ?_
  refine C.seq ?_
  refine C.seq ?_
  refine C.region ?_
  refine G.moveI rfl trivial rfl rfl rfl ?_
  refine G.bin rfl trivial rfl rfl rfl rfl rfl ?_
  refine G.moveB rfl trivial rfl rfl rfl ?_
  refine G.no (t := 14) rfl (by omega) ?_
  refine G.moveI rfl ⟨_, rfl, rfl, rfl⟩ rfl rfl rfl ?_
  refine G.bin rfl ⟨_, rfl, rfl, rfl⟩ rfl rfl rfl rfl rfl ?_
  first | refine G.pickT rfl trivial rfl rfl rfl rfl ?_ | refine G.pickF rfl trivial rfl rfl rfl rfl ?_
  refine G.moveB rfl trivial rfl rfl rfl ?_
  refine G.no (t := 18) rfl (by omega) ?_
  refine G.moveI rfl ⟨_, rfl, rfl, rfl⟩ rfl rfl rfl ?_
  refine G.bin rfl ⟨_, rfl, rfl, rfl⟩ rfl rfl rfl rfl rfl ?_
  first | refine G.pickT rfl trivial rfl rfl rfl rfl ?_ | refine G.pickF rfl trivial rfl rfl rfl rfl ?_
  refine G.moveB rfl trivial rfl rfl rfl ?_
  refine G.no (t := 22) rfl (by omega) ?_
  refine G.moveI rfl ⟨_, rfl, rfl, rfl⟩ rfl rfl rfl ?_
  refine G.bin rfl ⟨_, rfl, rfl, rfl⟩ rfl rfl rfl rfl rfl ?_
  first | refine G.pickT rfl trivial rfl rfl rfl rfl ?_ | refine G.pickF rfl trivial rfl rfl rfl rfl ?_
  refine G.nil ?_
  refine C.no rfl (by omega) ?_
  refine C.skip ?_
  refine C.seq ?_
  refine C.region ?_
  refine G.call E10 rfl rfl trivial rfl rfl (new_spec W0 _ 4) rfl ?_
  rintro e L2 ⟨bd, bl, rfl, rfl⟩
  rw [show clampN 4 = 4 from rfl]
  refine G.assignP rfl trivial rfl rfl rfl ?_
  refine G.nil ?_
  refine C.seq ?_
  refine C.region ?_
  refine G.moveP rfl trivial rfl rfl rfl ?_
  refine G.moveI rfl trivial rfl rfl rfl ?_
  refine G.call E19 rfl rfl trivial rfl rfl (fuse_spec W0 [] _ bd bl (newDv 4) f) rfl ?_
  rintro e L2 ⟨rfl, rfl⟩
  have hst := fz_start hf
  generalize (newDv 4).setFuse (f : Int) = d0 at *
  refine G.nil ?_
  refine C.seq ?_
  refine C.seq ?_
  refine C.region ?_
  refine G.assignI rfl trivial rfl rfl rfl ?_
  refine G.nil ?_
  refine C.block ?_
  refine C.loop (fun m F D' L' => ∃ (i : Nat) (d : Dv), i ≤ n ∧ Fz d i f ∧ m = n - i ∧ F 7 = .int .i64 i ∧ F 6 = ptr bd ∧ F 0 = .int .i64 n ∧ F 1 = .int .i64 f ∧ D' = [] ∧ devSeg bd bl d :: [] = L') ⟨_, ⟨0, d0, by omega, hst, rfl, rfl, rfl, rfl, rfl, rfl, rfl⟩⟩ ?_
  rintro m F D' L' ⟨i, d, hi, hz, rfl, h7, h6, h0', h1', rfl, rfl⟩
  refine C.fix (d := 7) h7 ?_
  refine C.fix (d := 6) h6 ?_
  refine C.fix (d := 0) h0' ?_
  refine C.fix (d := 1) h1' ?_
  refine C.seq ?_
  refine C.seq ?_
  refine C.region ?_
  refine G.moveI rfl trivial rfl rfl rfl ?_
  refine G.moveI rfl trivial rfl rfl rfl ?_
  refine G.bin rfl trivial rfl rfl rfl rfl rfl ?_
  refine G.nil ?_
  refine C.cond _ rfl ?_ ?_
  · intro hc2
    have hlt : i < n := by omega
    have hdd := hz.isDead
    refine C.skip ?_
    refine C.seq ?_
    refine C.block ?_
    refine C.seq ?_
    refine C.region ?_
    refine G.assignI rfl trivial rfl rfl rfl ?_
    refine G.nil ?_
    refine C.seq ?_
    refine C.seq ?_
    refine C.region ?_
    refine G.moveI rfl trivial rfl rfl rfl ?_
    refine G.rem rfl trivial rfl rfl rfl rfl (by decide) ?_
    refine G.bin rfl trivial rfl rfl rfl rfl rfl ?_
    refine G.nil ?_
    refine C.cond _ rfl ?_ ?_
    · intro hc3
      refine C.region ?_
      refine G.moveP rfl trivial rfl rfl rfl ?_
      by_cases hif : i < f
      ·
        refine G.call E16 rfl rfl trivial rfl rfl (flush_ok W0 [] _ bd bl d hz.ok (by rw [hdd]; exact decide_eq_false (by omega))) rfl ?_
        rintro e L2 ⟨rfl, rfl⟩
        refine G.assignI rfl trivial rfl rfl rfl ?_
        refine G.nil ?_
        refine C.seq ?_
        refine C.region ?_
        refine G.moveI rfl trivial rfl rfl rfl ?_
        refine G.bin rfl trivial rfl rfl rfl rfl rfl ?_
        refine G.yes (t := 49) rfl rfl ?_
        refine G.moveI rfl trivial rfl rfl rfl ?_
        refine G.moveI rfl trivial rfl rfl rfl ?_
        refine G.bin rfl trivial rfl rfl rfl rfl rfl ?_
        refine G.yes (t := 52) rfl (by omega) ?_
        refine G.boolNe rfl trivial rfl rfl Try.underlying4 rfl rfl ?_
        refine G.moveB rfl trivial rfl rfl rfl ?_
        refine G.moveI rfl ⟨_, rfl, rfl, rfl⟩ rfl rfl rfl ?_
        refine G.bin rfl ⟨_, rfl, rfl, rfl⟩ rfl rfl rfl rfl rfl ?_
        refine G.no (t := 56) rfl (by decide) ?_
        refine G.moveB rfl ⟨_, rfl, rfl, rfl⟩ rfl rfl rfl ?_
        refine G.skip rfl rfl rfl rfl rfl rfl ?_
        refine G.skip rfl rfl rfl rfl rfl rfl ?_
        first | refine G.pickT rfl ⟨_, rfl, rfl, rfl⟩ rfl rfl rfl rfl ?_ | refine G.pickF rfl ⟨_, rfl, rfl, rfl⟩ rfl rfl rfl rfl ?_
        first | refine G.pickT rfl trivial rfl rfl rfl rfl ?_ | refine G.pickF rfl trivial rfl rfl rfl rfl ?_
        refine G.nil ?_
        refine C.condF rfl ?_
        refine C.skip ?_
        refine C.region ?_
        refine G.moveI rfl trivial rfl rfl rfl ?_
        refine G.add rfl trivial rfl rfl rfl rfl (by omega) ?_
        refine G.assignI rfl trivial rfl rfl rfl ?_
        refine G.nil ?_
        exact ⟨n - (i + 1), by omega, i + 1, d.flush, by omega, hz.flush hif hf, rfl, rfl, rfl, rfl, rfl, rfl, rfl⟩
      ·
        refine G.call E16 rfl rfl trivial rfl rfl (flush_dead W0 [] _ bd bl d (by rw [hdd]; exact decide_eq_true (by omega))) rfl ?_
        rintro e L2 ⟨rfl, rfl⟩
        refine G.assignI rfl trivial rfl rfl rfl ?_
        refine G.nil ?_
        refine C.seq ?_
        refine C.region ?_
        refine G.moveI rfl trivial rfl rfl rfl ?_
        refine G.bin rfl trivial rfl rfl rfl rfl rfl ?_
        refine G.no (t := 49) rfl (by decide) ?_
        refine G.moveI rfl trivial rfl rfl rfl ?_
        refine G.moveI rfl trivial rfl rfl rfl ?_
        refine G.bin rfl trivial rfl rfl rfl rfl rfl ?_
        refine G.no (t := 52) rfl (by omega) ?_
        refine G.boolNe rfl trivial rfl rfl Try.underlying4 rfl rfl ?_
        refine G.moveB rfl trivial rfl rfl rfl ?_
        refine G.moveI rfl ⟨_, rfl, rfl, rfl⟩ rfl rfl rfl ?_
        refine G.bin rfl ⟨_, rfl, rfl, rfl⟩ rfl rfl rfl rfl rfl ?_
        refine G.yes (t := 56) rfl (by decide) ?_
        refine G.moveB rfl ⟨_, rfl, rfl, rfl⟩ rfl rfl rfl ?_
        refine G.moveI rfl ⟨_, rfl, rfl, rfl⟩ rfl rfl rfl ?_
        refine G.bin rfl ⟨_, rfl, rfl, rfl⟩ rfl rfl rfl rfl rfl ?_
        refine G.no (t := 59) rfl (by decide) ?_
        first | refine G.pickT rfl ⟨_, rfl, rfl, rfl⟩ rfl rfl rfl rfl ?_ | refine G.pickF rfl ⟨_, rfl, rfl, rfl⟩ rfl rfl rfl rfl ?_
        first | refine G.pickT rfl trivial rfl rfl rfl rfl ?_ | refine G.pickF rfl trivial rfl rfl rfl rfl ?_
        refine G.nil ?_
        refine C.condF rfl ?_
        refine C.skip ?_
        refine C.region ?_
        refine G.moveI rfl trivial rfl rfl rfl ?_
        refine G.add rfl trivial rfl rfl rfl rfl (by omega) ?_
        refine G.assignI rfl trivial rfl rfl rfl ?_
        refine G.nil ?_
        exact ⟨n - (i + 1), by omega, i + 1, d, by omega, hz.late (by omega), rfl, rfl, rfl, rfl, rfl, rfl, rfl⟩
    · intro hc3
      refine C.region ?_
      refine G.moveP rfl trivial rfl rfl rfl ?_
      refine G.moveI rfl trivial rfl rfl rfl ?_
      refine G.rem rfl trivial rfl rfl rfl rfl (by decide) ?_
      rw [show (i : Int).tmod 4 = ((i % 4 : Nat) : Int) by rw [Int.tmod_eq_emod_of_nonneg (by omega)]; omega]
      refine G.moveI rfl trivial rfl rfl rfl ?_
      refine G.add rfl trivial rfl rfl rfl rfl (by omega) ?_
      refine G.convInt rfl trivial rfl rfl Try.underlying3 Try.underlying5 rfl ?_
      refine G.fix (d := 45) (v := .int .u8 ((UInt8.ofNat (i + 1)).toNat : Int)) (u8_ofD (i + 1)) ?_
      refine G.buildSliceL (cs := [.int .u8 ((UInt8.ofNat (i + 1)).toNat : Int)]) (zs := [(.int .u8 0)]) rfl trivial rfl rfl Try.underlying31 I5 rfl (by kernel_rfl) rfl rfl ?_
      intro b46
      by_cases hif : i < f
      ·
        refine G.call E13 rfl rfl trivial rfl rfl (write_ok W0 [_] _ bd bl d hz.ok (by rw [hdd]; exact decide_eq_false (by omega)) (i % 4) (by rw [hz.len]; omega) _ 1 [UInt8.ofNat (i + 1)] (by simp) (Rd.row0 (cs := bytesV [UInt8.ofNat (i + 1)]) .here)) rfl ?_
        rintro e L2 ⟨rfl, rfl⟩
        refine G.assignI rfl trivial rfl rfl rfl ?_
        refine G.less (fun _ h => h.tail) ?_
        refine G.nil ?_
        refine C.seq ?_
        refine C.region ?_
        refine G.moveI rfl trivial rfl rfl rfl ?_
        refine G.bin rfl trivial rfl rfl rfl rfl rfl ?_
        refine G.yes (t := 49) rfl rfl ?_
        refine G.moveI rfl trivial rfl rfl rfl ?_
        refine G.moveI rfl trivial rfl rfl rfl ?_
        refine G.bin rfl trivial rfl rfl rfl rfl rfl ?_
        refine G.yes (t := 52) rfl (by omega) ?_
        refine G.boolNe rfl trivial rfl rfl Try.underlying4 rfl rfl ?_
        refine G.moveB rfl trivial rfl rfl rfl ?_
        refine G.moveI rfl ⟨_, rfl, rfl, rfl⟩ rfl rfl rfl ?_
        refine G.bin rfl ⟨_, rfl, rfl, rfl⟩ rfl rfl rfl rfl rfl ?_
        refine G.no (t := 56) rfl (by decide) ?_
        refine G.moveB rfl ⟨_, rfl, rfl, rfl⟩ rfl rfl rfl ?_
        refine G.skip rfl rfl rfl rfl rfl rfl ?_
        refine G.skip rfl rfl rfl rfl rfl rfl ?_
        first | refine G.pickT rfl ⟨_, rfl, rfl, rfl⟩ rfl rfl rfl rfl ?_ | refine G.pickF rfl ⟨_, rfl, rfl, rfl⟩ rfl rfl rfl rfl ?_
        first | refine G.pickT rfl trivial rfl rfl rfl rfl ?_ | refine G.pickF rfl trivial rfl rfl rfl rfl ?_
        refine G.nil ?_
        refine C.condF rfl ?_
        refine C.skip ?_
        refine C.region ?_
        refine G.moveI rfl trivial rfl rfl rfl ?_
        refine G.add rfl trivial rfl rfl rfl rfl (by omega) ?_
        refine G.assignI rfl trivial rfl rfl rfl ?_
        refine G.nil ?_
        exact ⟨n - (i + 1), by omega, i + 1, d.put (i % 4) [UInt8.ofNat (i + 1)], by omega, hz.put hif hf _ (by simp), rfl, rfl, rfl, rfl, rfl, rfl, rfl⟩
      ·
        refine G.call E13 rfl rfl trivial rfl rfl (write_dead W0 [_] _ bd bl d (by rw [hdd]; exact decide_eq_true (by omega)) _ _ _ _) rfl ?_
        rintro e L2 ⟨rfl, rfl⟩
        refine G.assignI rfl trivial rfl rfl rfl ?_
        refine G.less (fun _ h => h.tail) ?_
        refine G.nil ?_
        refine C.seq ?_
        refine C.region ?_
        refine G.moveI rfl trivial rfl rfl rfl ?_
        refine G.bin rfl trivial rfl rfl rfl rfl rfl ?_
        refine G.no (t := 49) rfl (by decide) ?_
        refine G.moveI rfl trivial rfl rfl rfl ?_
        refine G.moveI rfl trivial rfl rfl rfl ?_
        refine G.bin rfl trivial rfl rfl rfl rfl rfl ?_
        refine G.no (t := 52) rfl (by omega) ?_
        refine G.boolNe rfl trivial rfl rfl Try.underlying4 rfl rfl ?_
        refine G.moveB rfl trivial rfl rfl rfl ?_
        refine G.moveI rfl ⟨_, rfl, rfl, rfl⟩ rfl rfl rfl ?_
        refine G.bin rfl ⟨_, rfl, rfl, rfl⟩ rfl rfl rfl rfl rfl ?_
        refine G.yes (t := 56) rfl (by decide) ?_
        refine G.moveB rfl ⟨_, rfl, rfl, rfl⟩ rfl rfl rfl ?_
        refine G.moveI rfl ⟨_, rfl, rfl, rfl⟩ rfl rfl rfl ?_
        refine G.bin rfl ⟨_, rfl, rfl, rfl⟩ rfl rfl rfl rfl rfl ?_
        refine G.no (t := 59) rfl (by decide) ?_
        first | refine G.pickT rfl ⟨_, rfl, rfl, rfl⟩ rfl rfl rfl rfl ?_ | refine G.pickF rfl ⟨_, rfl, rfl, rfl⟩ rfl rfl rfl rfl ?_
        first | refine G.pickT rfl trivial rfl rfl rfl rfl ?_ | refine G.pickF rfl trivial rfl rfl rfl rfl ?_
        refine G.nil ?_
        refine C.condF rfl ?_
        refine C.skip ?_
        refine C.region ?_
        refine G.moveI rfl trivial rfl rfl rfl ?_
        refine G.add rfl trivial rfl rfl rfl rfl (by omega) ?_
        refine G.assignI rfl trivial rfl rfl rfl ?_
        refine G.nil ?_
        exact ⟨n - (i + 1), by omega, i + 1, d, by omega, hz.late (by omega), rfl, rfl, rfl, rfl, rfl, rfl, rfl⟩
  · intro hc2
    obtain rfl : i = n := by omega
    refine C.exit ?_
    refine C.seq ?_
    refine C.region ?_
    refine G.moveP rfl trivial rfl rfl rfl ?_
    refine G.call E24 rfl rfl trivial rfl rfl (calls_spec W0 [] _ bd bl d) rfl ?_
    rintro e L2 ⟨rfl, rfl⟩
    rw [hz.calls]
    refine G.moveI rfl trivial rfl rfl rfl ?_
    refine G.moveI rfl trivial rfl rfl rfl ?_
    refine G.min2 rfl trivial rfl rfl rfl rfl ?_
    refine G.bin rfl trivial rfl rfl rfl rfl rfl ?_
    refine G.yes (t := 67) rfl (by omega) ?_
    refine G.moveB rfl trivial rfl rfl rfl ?_
    refine G.moveP rfl ⟨_, rfl, rfl, rfl⟩ rfl rfl rfl ?_
    refine G.call E25 rfl rfl ⟨_, rfl, rfl, rfl⟩ rfl rfl (dead_spec W0 [] _ bd bl d) rfl ?_
    rintro e L2 ⟨rfl, rfl⟩
    rw [hz.isDead]
    refine G.moveI rfl ⟨_, rfl, rfl, rfl⟩ rfl rfl rfl ?_
    refine G.moveI rfl ⟨_, rfl, rfl, rfl⟩ rfl rfl rfl ?_
    refine G.bin rfl ⟨_, rfl, rfl, rfl⟩ rfl rfl rfl rfl rfl ?_
    refine G.boolEq rfl ⟨_, rfl, rfl, rfl⟩ rfl rfl Try.underlying4 rfl rfl ?_
    refine G.fix (d := 74) (v := .bool true) (by show Value.bool (decide (f ≤ i) == decide ((i : Int) ≥ (f : Int))) = _; rw [show decide ((i : Int) ≥ (f : Int)) = decide (f ≤ i) from decide_eq_decide.2 (by omega), beq_self_eq_true]) ?_
    first | refine G.pickT rfl trivial rfl rfl rfl rfl ?_ | refine G.pickF rfl trivial rfl rfl rfl rfl ?_
    refine G.assignB rfl trivial rfl rfl rfl ?_
    refine G.nil ?_
    refine C.ret ?_
    -- end c2F
    exact ⟨rfl, _, Res.of (rs := [.tmp 4]) rfl rfl, rfl⟩
theorem fuse_walk_no (W0 : World) (n f : Int) (h : ¬ (0 ≤ n ∧ n ≤ 30 ∧ 0 ≤ f ∧ f ≤ 40)) :
    FnS Try.prog W0 7 #[.int .i64 n, .int .i64 f] [] (fun e _ => e = .returned (.bool true)) := by
  refine FnS.of (args := [.int .i64 n, .int .i64 f]) Try.func7 rfl rfl ?_
  refine C.seq ?_
  refine C.region ?_
  refine G.assignB rfl trivial rfl rfl rfl ?_
  refine G.nil ?_
  refine C.seq ?_
  refine C.region ?_
  refine G.call E9 rfl rfl trivial rfl rfl (beganD_spec W0 _) rfl ?_
  rintro e L2 ⟨rfl, rfl⟩
  refine G.assignB rfl trivial rfl rfl rfl ?_
  refine G.nil ?_
  refine C.seq ?_
  refine C.seq ?_
  refine C.region ?_
  refine G.moveB rfl trivial rfl rfl rfl ?_
  first | refine G.notD rfl trivial rfl rfl rfl ?_ | refine G.not rfl trivial rfl rfl rfl ?_
  refine G.nil ?_
  refine C.condF rfl ?_
  refine C.skip ?_
  refine C.seq ?_
  refine C.seq ?_
  refine C.region ?_
  refine G.moveI rfl trivial rfl rfl rfl ?_
  refine G.bin rfl trivial rfl rfl rfl rfl rfl ?_
  refine G.moveB rfl trivial rfl rfl rfl ?_
  refine G.fork (t := 14) _ rfl ?_ ?_
  · intro hg14
    refine G.skip rfl rfl rfl rfl rfl rfl ?_
    refine G.skip rfl rfl rfl rfl rfl rfl ?_
    first | refine G.pickT rfl trivial rfl rfl rfl rfl ?_ | refine G.pickF rfl trivial rfl rfl rfl rfl ?_
    refine G.moveB rfl trivial rfl rfl rfl ?_
    refine G.skip rfl rfl rfl rfl rfl rfl ?_
    refine G.skip rfl rfl rfl rfl rfl rfl ?_
    first | refine G.pickT rfl trivial rfl rfl rfl rfl ?_ | refine G.pickF rfl trivial rfl rfl rfl rfl ?_
    refine G.moveB rfl trivial rfl rfl rfl ?_
    refine G.skip rfl rfl rfl rfl rfl rfl ?_
    refine G.skip rfl rfl rfl rfl rfl rfl ?_
    first | refine G.pickT rfl trivial rfl rfl rfl rfl ?_ | refine G.pickF rfl trivial rfl rfl rfl rfl ?_
    refine G.nil ?_
    refine C.condT rfl ?_
    refine C.seq ?_
    refine C.region ?_
    refine G.assignB rfl trivial rfl rfl rfl ?_
    refine G.nil ?_
    refine C.ret ?_
    -- end g14T
    exact ⟨rfl, _, Res.of (rs := [.tmp 4]) rfl rfl, rfl⟩
  · intro hg14
    refine G.moveI rfl ⟨_, rfl, rfl, rfl⟩ rfl rfl rfl ?_
    refine G.bin rfl ⟨_, rfl, rfl, rfl⟩ rfl rfl rfl rfl rfl ?_
    first | refine G.pickT rfl trivial rfl rfl rfl rfl ?_ | refine G.pickF rfl trivial rfl rfl rfl rfl ?_
    refine G.moveB rfl trivial rfl rfl rfl ?_
    refine G.fork (t := 18) _ rfl ?_ ?_
    · intro hg18
      refine G.skip rfl rfl rfl rfl rfl rfl ?_
      refine G.skip rfl rfl rfl rfl rfl rfl ?_
      first | refine G.pickT rfl trivial rfl rfl rfl rfl ?_ | refine G.pickF rfl trivial rfl rfl rfl rfl ?_
      refine G.moveB rfl trivial rfl rfl rfl ?_
      refine G.skip rfl rfl rfl rfl rfl rfl ?_
      refine G.skip rfl rfl rfl rfl rfl rfl ?_
      first | refine G.pickT rfl trivial rfl rfl rfl rfl ?_ | refine G.pickF rfl trivial rfl rfl rfl rfl ?_
      refine G.nil ?_
      refine C.condT rfl ?_
      refine C.seq ?_
      refine C.region ?_
      refine G.assignB rfl trivial rfl rfl rfl ?_
      refine G.nil ?_
      refine C.ret ?_
      -- end g14Fg18T
      exact ⟨rfl, _, Res.of (rs := [.tmp 4]) rfl rfl, rfl⟩
    · intro hg18
      refine G.moveI rfl ⟨_, rfl, rfl, rfl⟩ rfl rfl rfl ?_
      refine G.bin rfl ⟨_, rfl, rfl, rfl⟩ rfl rfl rfl rfl rfl ?_
      first | refine G.pickT rfl trivial rfl rfl rfl rfl ?_ | refine G.pickF rfl trivial rfl rfl rfl rfl ?_
      refine G.moveB rfl trivial rfl rfl rfl ?_
      refine G.fork (t := 22) _ rfl ?_ ?_
      · intro hg22
        refine G.skip rfl rfl rfl rfl rfl rfl ?_
        refine G.skip rfl rfl rfl rfl rfl rfl ?_
        first | refine G.pickT rfl trivial rfl rfl rfl rfl ?_ | refine G.pickF rfl trivial rfl rfl rfl rfl ?_
        refine G.nil ?_
        refine C.condT rfl ?_
        refine C.seq ?_
        refine C.region ?_
        refine G.assignB rfl trivial rfl rfl rfl ?_
        refine G.nil ?_
        refine C.ret ?_
        -- end g14Fg18Fg22T
        exact ⟨rfl, _, Res.of (rs := [.tmp 4]) rfl rfl, rfl⟩
      · intro hg22
        refine G.moveI rfl ⟨_, rfl, rfl, rfl⟩ rfl rfl rfl ?_
        refine G.bin rfl ⟨_, rfl, rfl, rfl⟩ rfl rfl rfl rfl rfl ?_
        first | refine G.pickT rfl trivial rfl rfl rfl rfl ?_ | refine G.pickF rfl trivial rfl rfl rfl rfl ?_
        refine G.nil ?_
        refine C.cond _ rfl ?_ ?_
        · intro hc1
          refine C.seq ?_
          refine C.region ?_
          refine G.assignB rfl trivial rfl rfl rfl ?_
          refine G.nil ?_
          refine C.ret ?_
          -- end g14Fg18Fg22Fc1T
          exact ⟨rfl, _, Res.of (rs := [.tmp 4]) rfl rfl, rfl⟩
        · intro hc1
          omega
/-! ### A crash behind a crash -/
theorem crashFrom_both (ks : List Bool) : ∀ (xs : List (List UInt8)) (j : Nat), crashFrom ks (xs.map both) j = xs
  | [], _ => rfl
  | x :: xs, j => by
    simp only [List.map_cons, crashFrom]
    rw [show (both x).loose = false from rfl, if_neg (by simp), crashFrom_both ks xs]
    rfl
theorem crash_again (d : Dv) (ks ks2 : List Bool) : (d.crash ks).crash ks2 = d.crash ks := by
  unfold Dv.crash
  simp only [crashFrom_both, List.length_map, crashFrom_length]
theorem looses_both : ∀ (xs : List (List UInt8)) (j : Nat), looses (xs.map both) j = []
  | [], _ => rfl
  | x :: xs, j => by
    simp only [List.map_cons, looses, looses_both xs]
    rfl
theorem crash_looses (d : Dv) (ks : List Bool) : looses (d.crash ks).l 0 = [] := looses_both _ _
theorem crash_len (d : Dv) (ks : List Bool) : (d.crash ks).l.length = d.l.length := by simp [Dv.crash, crashFrom_length]
theorem mod16 (z : Int) : ∃ k : Nat, k < 16 ∧ (z.tmod 16 + 16).tmod 16 = (k : Int) := by
  have h1 := Int.tmod_lt_of_pos z (show (0 : Int) < 16 by decide)
  have h2 : -16 < z.tmod 16 := Int.lt_tmod_of_pos z (by decide)
  refine ⟨((z.tmod 16 + 16).tmod 16).toNat, ?_, ?_⟩
  · have h3 := Int.tmod_lt_of_pos (z.tmod 16 + 16) (show (0 : Int) < 16 by decide)
    omega
  · have h4 := Int.tmod_nonneg (a := z.tmod 16 + 16) 16 (by omega)
    omega
theorem tmod16 (z : Int) : -16 < z.tmod 16 ∧ z.tmod 16 < 16 := ⟨Int.lt_tmod_of_pos z (by decide), Int.tmod_lt_of_pos z (by decide)⟩
theorem flush_live {d : Dv} (h : d.live) : d.flush.live := h
theorem ints_atD {W0 : World} {p o : Nat} {zs : List Int} (r : ∀ L, Rd W0 L (some ⟨p, o, none⟩) (zs.map (Value.int .i64))) {i : Nat} (hlt : i < zs.length) {L : List Seg} (w : World) (hm : Mem W0 w L) : w.cell? ⟨p, o + (i : Int).toNat * 1, none⟩ = some (.int .i64 zs[i]) := by
  have h := Rd.cell_at (r L) (j := i) (by simpa using hlt) w hm
  rw [List.getElem?_map, List.getElem?_eq_getElem hlt] at h
  simpa using h
theorem twice_walk (W0 : World) (a0 a2 a3 : Option Addr) (c0 c2 c3 : Nat) (zs : List Int) (fl : Int) (ks ks2 : List Bool) (hz : zs.length ≤ 9223372036854775807) (hzb : ∀ n ∈ zs, -9223372036854775808 ≤ n ∧ n ≤ 9223372036854775807)
    (r0 : ∀ L, Rd W0 L a0 (zs.map (Value.int .i64))) (h2 : ks.length ≤ c2) (r2 : ∀ L, Rd W0 L a2 (ks.map Value.bool)) (h3 : ks2.length ≤ c3) (r3 : ∀ L, Rd W0 L a3 (ks2.map Value.bool)) :
    FnS Try.prog W0 6 #[.slice a0 zs.length c0, .int .i64 fl, .slice a2 ks.length c2, .slice a3 ks2.length c3] [] (fun e _ => e = .returned (.bool true)) := by
  refine FnS.of (args := [.slice a0 zs.length c0, .int .i64 fl, .slice a2 ks.length c2, .slice a3 ks2.length c3]) Try.func6 rfl rfl ?_
  refine C.seq ?_
  refine C.region ?_
  refine G.assignB rfl trivial rfl rfl rfl ?_
  refine G.nil ?_
  refine C.seq ?_
  refine C.region ?_
  refine G.call E9 rfl rfl trivial rfl rfl (beganD_spec W0 _) rfl ?_
  rintro e L2 ⟨rfl, rfl⟩
  refine G.assignB rfl trivial rfl rfl rfl ?_
  refine G.nil ?_
  refine C.seq ?_
  refine C.seq ?_
  refine C.region ?_
  refine G.moveB rfl trivial rfl rfl rfl ?_
  first | refine G.notD rfl trivial rfl rfl rfl ?_ | refine G.not rfl trivial rfl rfl rfl ?_
  refine G.nil ?_
  refine C.condF rfl ?_
  refine C.skip ?_
  refine C.seq ?_
  refine C.region ?_
  refine G.call E10 rfl rfl trivial rfl rfl (new_spec W0 _ 16) rfl ?_
  rintro e L2 ⟨bd, bl, rfl, rfl⟩
  rw [show clampN 16 = 16 from rfl]
  have hok0 : (newDv 16).ok := newDv_ok (by decide)
  have hlive0 := newDv_live 16
  have hlen0 : (newDv 16).l.length = 16 := rfl
  generalize newDv 16 = d0 at *
  refine G.assignP rfl trivial rfl rfl rfl ?_
  refine G.nil ?_
  refine C.seq ?_
  refine C.seq ?_
  refine C.region ?_
  refine G.assignI rfl trivial rfl rfl rfl ?_
  refine G.nil ?_
  refine C.block ?_
  refine C.loop (fun m F D' L' => ∃ (i : Nat) (d : Dv), i ≤ zs.length ∧ d.ok ∧ d.live ∧ d.l.length = 16 ∧ m = zs.length - i ∧ F 11 = .int .i64 i ∧ F 10 = ptr bd ∧ F 0 = .slice a0 zs.length c0 ∧ F 1 = .int .i64 fl ∧ F 2 = .slice a2 ks.length c2 ∧ F 3 = .slice a3 ks2.length c3 ∧ D' = [] ∧ devSeg bd bl d :: [] = L') ⟨_, ⟨0, d0, by omega, hok0, hlive0, hlen0, rfl, rfl, rfl, rfl, rfl, rfl, rfl, rfl, rfl⟩⟩ ?_
  rintro m F D' L' ⟨i, d, hi, hok, hlive, hlen, rfl, h11, h10, h0', h1', h2', h3', rfl, rfl⟩
  refine C.fix (d := 11) h11 ?_
  refine C.fix (d := 10) h10 ?_
  refine C.fix (d := 0) h0' ?_
  refine C.fix (d := 1) h1' ?_
  refine C.fix (d := 2) h2' ?_
  refine C.fix (d := 3) h3' ?_
  refine C.seq ?_
  refine C.seq ?_
  refine C.region ?_
  refine G.moveI rfl trivial rfl rfl rfl ?_
  refine G.moveS rfl trivial rfl rfl rfl ?_
  refine G.lenSlice rfl trivial rfl rfl Try.underlying46 rfl ?_
  refine G.bin rfl trivial rfl rfl rfl rfl rfl ?_
  refine G.moveB rfl trivial rfl rfl rfl ?_
  refine G.fork (t := 27) _ rfl ?_ ?_
  · intro hg27
    refine G.moveI rfl ⟨_, rfl, rfl, rfl⟩ rfl rfl rfl ?_
    refine G.bin rfl ⟨_, rfl, rfl, rfl⟩ rfl rfl rfl rfl rfl ?_
    first | refine G.pickT rfl trivial rfl rfl rfl rfl ?_ | refine G.pickF rfl trivial rfl rfl rfl rfl ?_
    refine G.nil ?_
    refine C.cond _ rfl ?_ ?_
    · intro hc1
      have hlt : i < zs.length := by omega
      obtain ⟨p0, o0, rfl, rd0⟩ := (r0 []).some_ (by simp; omega)
      have ht := tmod16 zs[i]
      obtain ⟨k, hk, hk2⟩ := mod16 zs[i]
      refine C.skip ?_
      refine C.seq ?_
      refine C.block ?_
      refine C.seq ?_
      refine C.region ?_
      refine G.moveP rfl trivial rfl rfl rfl ?_
      refine G.moveS rfl trivial rfl rfl rfl ?_
      refine G.moveI rfl trivial rfl rfl rfl ?_
      refine G.indexAddr rfl trivial rfl rfl Try.underlying46 I3 rfl rfl (by omega) ?_
      refine G.load (v := .int .i64 zs[i]) rfl trivial rfl rfl Try.underlying3 rfl rfl (fun w hm => ints_atD r0 hlt w hm) ?_
      refine G.rem rfl trivial rfl rfl rfl rfl (by decide) ?_
      refine G.add rfl trivial rfl rfl rfl rfl (by omega) ?_
      refine G.rem rfl trivial rfl rfl rfl rfl (by decide) ?_
      rw [hk2]
      refine G.moveI rfl trivial rfl rfl rfl ?_
      refine G.add rfl trivial rfl rfl rfl rfl (by omega) ?_
      refine G.convInt rfl trivial rfl rfl Try.underlying3 Try.underlying5 rfl ?_
      refine G.fix (d := 43) (v := .int .u8 ((UInt8.ofNat (i + 1)).toNat : Int)) (u8_ofD (i + 1)) ?_
      refine G.buildSliceL (cs := [.int .u8 ((UInt8.ofNat (i + 1)).toNat : Int)]) (zs := [(.int .u8 0)]) rfl trivial rfl rfl Try.underlying31 I5 rfl (by kernel_rfl) rfl rfl ?_
      intro b44
      refine G.call E13 rfl rfl trivial rfl rfl (write_ok W0 [_] _ bd bl d hok hlive.notDead k (by omega) _ 1 [UInt8.ofNat (i + 1)] (by simp) (Rd.row0 (cs := bytesV [UInt8.ofNat (i + 1)]) .here)) rfl ?_
      rintro e L2 ⟨rfl, rfl⟩
      have hok1 : (d.put k [UInt8.ofNat (i + 1)]).ok := Dv.put_ok hok hlive.notDead (by simp)
      have hlive1 : (d.put k [UInt8.ofNat (i + 1)]).live := live_put hlive _ _
      have hlen1 : (d.put k [UInt8.ofNat (i + 1)]).l.length = 16 := by show (d.l.modify _ _).length = 16; rw [List.length_modify]; exact hlen
      generalize d.put k [UInt8.ofNat (i + 1)] = d1 at *
      refine G.nil ?_
      refine C.seq ?_
      refine C.region ?_
      refine G.moveI rfl trivial rfl rfl rfl ?_
      refine G.moveI rfl trivial rfl rfl rfl ?_
      refine G.bin rfl trivial rfl rfl rfl rfl rfl ?_
      refine G.nil ?_
      refine C.cond _ rfl ?_ ?_
      · intro hc2
        refine C.region ?_
        refine G.moveP rfl trivial rfl rfl rfl ?_
        refine G.call E16 rfl rfl trivial rfl rfl (flush_ok W0 [_] _ bd bl d1 hok1 hlive1.notDead) rfl ?_
        rintro e L2 ⟨rfl, rfl⟩
        refine G.nil ?_
        refine C.region ?_
        refine G.moveI rfl trivial rfl rfl rfl ?_
        refine G.add rfl trivial rfl rfl rfl rfl (by omega) ?_
        refine G.assignI rfl trivial rfl rfl rfl ?_
        refine G.less (fun _ h => h.tail) ?_
        refine G.nil ?_
        exact ⟨zs.length - (i + 1), by omega, i + 1, d1.flush, by omega, Dv.flush_ok hok1 hlive1.notDead, flush_live hlive1, by show (d1.l.map _).length = 16; rw [List.length_map]; exact hlen1, rfl, rfl, rfl, rfl, rfl, rfl, rfl, rfl, rfl⟩
      · intro hc2
        refine C.skip ?_
        refine C.region ?_
        refine G.moveI rfl trivial rfl rfl rfl ?_
        refine G.add rfl trivial rfl rfl rfl rfl (by omega) ?_
        refine G.assignI rfl trivial rfl rfl rfl ?_
        refine G.less (fun _ h => h.tail) ?_
        refine G.nil ?_
        exact ⟨zs.length - (i + 1), by omega, i + 1, d1, by omega, hok1, hlive1, hlen1, rfl, rfl, rfl, rfl, rfl, rfl, rfl, rfl, rfl⟩
    · intro hc1
      refine C.exit ?_
      refine C.seq ?_
      refine C.region ?_
      refine G.moveP rfl trivial rfl rfl rfl ?_
      refine G.moveS rfl trivial rfl rfl rfl ?_
      refine G.call E17 rfl rfl trivial rfl rfl (crash_spec W0 [] _ bd bl d hok (by omega) a2 c2 ks h2 (fun _ => r2 _)) rfl ?_
      rintro e L2 ⟨ba, bal, rfl, rfl⟩
      have haok := crash_ok hok ks
      have halen : (d.crash ks).l.length = 16 := by rw [crash_len]; exact hlen
      have hal := crash_looses d ks
      have hac : (d.crash ks).calls = 0 := rfl
      have had : (d.crash ks).isDead = false := rfl
      have hag : (d.crash ks).crash ks2 = d.crash ks := crash_again d ks ks2
      generalize d.crash ks = da at *
      refine G.assignP rfl trivial rfl rfl rfl ?_
      refine G.nil ?_
      refine C.seq ?_
      refine C.region ?_
      refine G.moveP rfl trivial rfl rfl rfl ?_
      refine G.moveS rfl trivial rfl rfl rfl ?_
      refine G.call E17 rfl rfl trivial rfl rfl (crash_spec W0 [] _ ba bal da haok (by omega) a3 c3 ks2 h3 (fun _ => r3 _)) rfl ?_
      rintro e L2 ⟨bb, bbl, rfl, rfl⟩
      rw [hag]
      refine G.assignP rfl trivial rfl rfl rfl ?_
      refine G.nil ?_
      refine C.seq ?_
      refine C.seq ?_
      refine C.region ?_
      refine G.assignI rfl trivial rfl rfl rfl ?_
      refine G.nil ?_
      refine C.block ?_
      refine C.loop (fun m F D' L' => ∃ j : Nat, j ≤ 16 ∧ m = 16 - j ∧ F 14 = .int .i64 j ∧ F 12 = ptr ba ∧ F 13 = ptr bb ∧ D' = [] ∧ devSeg bb bbl da :: devSeg ba bal da :: devSeg bd bl d :: [] = L') ⟨_, ⟨0, by omega, rfl, rfl, rfl, rfl, rfl, rfl⟩⟩ ?_
      rintro m F D' L' ⟨j, hj, rfl, h14, h12, h13, rfl, rfl⟩
      refine C.fix (d := 14) h14 ?_
      refine C.fix (d := 12) h12 ?_
      refine C.fix (d := 13) h13 ?_
      refine C.seq ?_
      refine C.seq ?_
      refine C.region ?_
      refine G.moveI rfl trivial rfl rfl rfl ?_
      refine G.bin rfl trivial rfl rfl rfl rfl rfl ?_
      refine G.nil ?_
      refine C.cond _ rfl ?_ ?_
      · intro hc3
        have hjl : j < da.l.length := by omega
        have hj64 := (haok.1 _ (List.getElem_mem hjl)).1
        refine C.skip ?_
        refine C.seq ?_
        refine C.block ?_
        refine C.seq ?_
        refine C.region ?_
        refine G.moveP rfl trivial rfl rfl rfl ?_
        refine G.moveI rfl trivial rfl rfl rfl ?_
        refine G.call E21 rfl rfl trivial rfl rfl (read_ok W0 [_] _ ba bal da haok j hjl) rfl ?_
        rintro e L2 ⟨v, seg, hv, rfl, rfl⟩
        obtain ⟨a64, c64, rfl, hr64⟩ := hv.form
        refine G.moveU rfl trivial rfl rfl rfl ?_
        refine G.extractL rfl trivial rfl rfl rfl rfl ?_
        refine G.extractL rfl trivial rfl rfl rfl rfl ?_
        refine G.assignS rfl trivial rfl rfl rfl ?_
        refine G.assignI rfl trivial rfl rfl rfl ?_
        refine G.nil ?_
        refine C.seq ?_
        refine C.region ?_
        refine G.moveP rfl trivial rfl rfl rfl ?_
        refine G.moveI rfl trivial rfl rfl rfl ?_
        refine G.call E21 rfl rfl trivial rfl rfl (read_ok W0 [_] _ bb bbl da haok j hjl) rfl ?_
        rintro e L2 ⟨v, seg2, hv2, rfl, rfl⟩
        obtain ⟨a70, c70, rfl, hr70⟩ := hv2.form
        refine G.moveU rfl trivial rfl rfl rfl ?_
        refine G.extractL rfl trivial rfl rfl rfl rfl ?_
        refine G.extractL rfl trivial rfl rfl rfl rfl ?_
        refine G.assignS rfl trivial rfl rfl rfl ?_
        refine G.assignI rfl trivial rfl rfl rfl ?_
        refine G.nil ?_
        refine C.seq ?_
        refine C.region ?_
        refine G.moveI rfl trivial rfl rfl rfl ?_
        refine G.bin rfl trivial rfl rfl rfl rfl rfl ?_
        refine G.no (t := 74) rfl (by simp) ?_
        refine G.moveB rfl trivial rfl rfl rfl ?_
        refine G.moveI rfl ⟨_, rfl, rfl, rfl⟩ rfl rfl rfl ?_
        refine G.bin rfl ⟨_, rfl, rfl, rfl⟩ rfl rfl rfl rfl rfl ?_
        refine G.no (t := 77) rfl (by simp) ?_
        first | refine G.pickT rfl trivial rfl rfl rfl rfl ?_ | refine G.pickF rfl trivial rfl rfl rfl rfl ?_
        refine G.moveB rfl trivial rfl rfl rfl ?_
        refine G.moveS rfl ⟨_, rfl, rfl, rfl⟩ rfl rfl rfl ?_
        refine G.bytesStr da.l[j].now rfl ⟨_, rfl, rfl, rfl⟩ rfl rfl Try.underlying31 Try.underlying5 Try.underlying9 rfl hj64.symm (hr64 _ _).cons ?_
        refine G.moveS rfl ⟨_, rfl, rfl, rfl⟩ rfl rfl rfl ?_
        refine G.bytesStr da.l[j].now rfl ⟨_, rfl, rfl, rfl⟩ rfl rfl Try.underlying31 Try.underlying5 Try.underlying9 rfl hj64.symm (hr70 _ _) ?_
        refine G.strNe rfl ⟨_, rfl, rfl, rfl⟩ rfl rfl  rfl rfl ?_
        refine G.no (t := 84) rfl (by simp) ?_
        first | refine G.pickT rfl trivial rfl rfl rfl rfl ?_ | refine G.pickF rfl trivial rfl rfl rfl rfl ?_
        refine G.nil ?_
        refine C.condF rfl ?_
        refine C.skip ?_
        refine C.region ?_
        refine G.moveI rfl trivial rfl rfl rfl ?_
        refine G.add rfl trivial rfl rfl rfl rfl (by omega) ?_
        refine G.assignI rfl trivial rfl rfl rfl ?_
        refine G.less (fun _ h => h.tail.tail) ?_
        refine G.nil ?_
        exact ⟨16 - (j + 1), by omega, j + 1, by omega, rfl, rfl, rfl, rfl, rfl, rfl⟩
      · intro hc3
        refine C.exit ?_
        refine C.seq ?_
        refine C.region ?_
        refine G.moveP rfl trivial rfl rfl rfl ?_
        refine G.call E24 rfl rfl trivial rfl rfl (calls_spec W0 [] _ bb bbl da) rfl ?_
        rintro e L2 ⟨rfl, rfl⟩
        rw [hac]
        refine G.bin rfl trivial rfl rfl rfl rfl rfl ?_
        refine G.yes (t := 88) rfl rfl ?_
        refine G.moveB rfl trivial rfl rfl rfl ?_
        refine G.moveP rfl ⟨_, rfl, rfl, rfl⟩ rfl rfl rfl ?_
        refine G.call E25 rfl rfl ⟨_, rfl, rfl, rfl⟩ rfl rfl (dead_spec W0 [] _ bb bbl da) rfl ?_
        rintro e L2 ⟨rfl, rfl⟩
        rw [had]
        first | refine G.notD rfl ⟨_, rfl, rfl, rfl⟩ rfl rfl rfl ?_ | refine G.not rfl ⟨_, rfl, rfl, rfl⟩ rfl rfl rfl ?_
        refine G.fix (d := 92) (v := .bool true) rfl ?_
        first | refine G.pickT rfl trivial rfl rfl rfl rfl ?_ | refine G.pickF rfl trivial rfl rfl rfl rfl ?_
        refine G.moveB rfl trivial rfl rfl rfl ?_
        refine G.moveP rfl ⟨_, rfl, rfl, rfl⟩ rfl rfl rfl ?_
        refine G.call E22 rfl rfl ⟨_, rfl, rfl, rfl⟩ rfl rfl (loose_spec W0 [] _ bb bbl da haok) rfl ?_
        rintro e L2 ⟨v, seg, hv, rfl, rfl⟩
        rw [hal] at hv
        obtain ⟨a96, c96, rfl, hr96⟩ := hv.form
        refine G.lenSlice rfl ⟨_, rfl, rfl, rfl⟩ rfl rfl Try.underlying46 rfl ?_
        refine G.bin rfl ⟨_, rfl, rfl, rfl⟩ rfl rfl rfl rfl rfl ?_
        refine G.yes (t := 98) rfl rfl ?_
        first | refine G.pickT rfl trivial rfl rfl rfl rfl ?_ | refine G.pickF rfl trivial rfl rfl rfl rfl ?_
        refine G.assignB rfl trivial rfl rfl rfl ?_
        refine G.nil ?_
        refine C.ret ?_
        -- end g27Tc1Fc3F
        exact ⟨rfl, _, Res.of (rs := [.tmp 8]) rfl rfl, rfl⟩
  · intro hg27
    refine G.skip rfl rfl rfl rfl rfl rfl ?_
    refine G.skip rfl rfl rfl rfl rfl rfl ?_
    first | refine G.pickT rfl trivial rfl rfl rfl rfl ?_ | refine G.pickF rfl trivial rfl rfl rfl rfl ?_
    refine G.nil ?_
    refine C.condF rfl ?_
    refine C.exit ?_
    refine C.seq ?_
    refine C.region ?_
    refine G.moveP rfl trivial rfl rfl rfl ?_
    refine G.moveS rfl trivial rfl rfl rfl ?_
    refine G.call E17 rfl rfl trivial rfl rfl (crash_spec W0 [] _ bd bl d hok (by omega) a2 c2 ks h2 (fun _ => r2 _)) rfl ?_
    rintro e L2 ⟨ba, bal, rfl, rfl⟩
    have haok := crash_ok hok ks
    have halen : (d.crash ks).l.length = 16 := by rw [crash_len]; exact hlen
    have hal := crash_looses d ks
    have hac : (d.crash ks).calls = 0 := rfl
    have had : (d.crash ks).isDead = false := rfl
    have hag : (d.crash ks).crash ks2 = d.crash ks := crash_again d ks ks2
    generalize d.crash ks = da at *
    refine G.assignP rfl trivial rfl rfl rfl ?_
    refine G.nil ?_
    refine C.seq ?_
    refine C.region ?_
    refine G.moveP rfl trivial rfl rfl rfl ?_
    refine G.moveS rfl trivial rfl rfl rfl ?_
    refine G.call E17 rfl rfl trivial rfl rfl (crash_spec W0 [] _ ba bal da haok (by omega) a3 c3 ks2 h3 (fun _ => r3 _)) rfl ?_
    rintro e L2 ⟨bb, bbl, rfl, rfl⟩
    rw [hag]
    refine G.assignP rfl trivial rfl rfl rfl ?_
    refine G.nil ?_
    refine C.seq ?_
    refine C.seq ?_
    refine C.region ?_
    refine G.assignI rfl trivial rfl rfl rfl ?_
    refine G.nil ?_
    refine C.block ?_
    refine C.loop (fun m F D' L' => ∃ j : Nat, j ≤ 16 ∧ m = 16 - j ∧ F 14 = .int .i64 j ∧ F 12 = ptr ba ∧ F 13 = ptr bb ∧ D' = [] ∧ devSeg bb bbl da :: devSeg ba bal da :: devSeg bd bl d :: [] = L') ⟨_, ⟨0, by omega, rfl, rfl, rfl, rfl, rfl, rfl⟩⟩ ?_
    rintro m F D' L' ⟨j, hj, rfl, h14, h12, h13, rfl, rfl⟩
    refine C.fix (d := 14) h14 ?_
    refine C.fix (d := 12) h12 ?_
    refine C.fix (d := 13) h13 ?_
    refine C.seq ?_
    refine C.seq ?_
    refine C.region ?_
    refine G.moveI rfl trivial rfl rfl rfl ?_
    refine G.bin rfl trivial rfl rfl rfl rfl rfl ?_
    refine G.nil ?_
    refine C.cond _ rfl ?_ ?_
    · intro hc3
      have hjl : j < da.l.length := by omega
      have hj64 := (haok.1 _ (List.getElem_mem hjl)).1
      refine C.skip ?_
      refine C.seq ?_
      refine C.block ?_
      refine C.seq ?_
      refine C.region ?_
      refine G.moveP rfl trivial rfl rfl rfl ?_
      refine G.moveI rfl trivial rfl rfl rfl ?_
      refine G.call E21 rfl rfl trivial rfl rfl (read_ok W0 [_] _ ba bal da haok j hjl) rfl ?_
      rintro e L2 ⟨v, seg, hv, rfl, rfl⟩
      obtain ⟨a64, c64, rfl, hr64⟩ := hv.form
      refine G.moveU rfl trivial rfl rfl rfl ?_
      refine G.extractL rfl trivial rfl rfl rfl rfl ?_
      refine G.extractL rfl trivial rfl rfl rfl rfl ?_
      refine G.assignS rfl trivial rfl rfl rfl ?_
      refine G.assignI rfl trivial rfl rfl rfl ?_
      refine G.nil ?_
      refine C.seq ?_
      refine C.region ?_
      refine G.moveP rfl trivial rfl rfl rfl ?_
      refine G.moveI rfl trivial rfl rfl rfl ?_
      refine G.call E21 rfl rfl trivial rfl rfl (read_ok W0 [_] _ bb bbl da haok j hjl) rfl ?_
      rintro e L2 ⟨v, seg2, hv2, rfl, rfl⟩
      obtain ⟨a70, c70, rfl, hr70⟩ := hv2.form
      refine G.moveU rfl trivial rfl rfl rfl ?_
      refine G.extractL rfl trivial rfl rfl rfl rfl ?_
      refine G.extractL rfl trivial rfl rfl rfl rfl ?_
      refine G.assignS rfl trivial rfl rfl rfl ?_
      refine G.assignI rfl trivial rfl rfl rfl ?_
      refine G.nil ?_
      refine C.seq ?_
      refine C.region ?_
      refine G.moveI rfl trivial rfl rfl rfl ?_
      refine G.bin rfl trivial rfl rfl rfl rfl rfl ?_
      refine G.no (t := 74) rfl (by simp) ?_
      refine G.moveB rfl trivial rfl rfl rfl ?_
      refine G.moveI rfl ⟨_, rfl, rfl, rfl⟩ rfl rfl rfl ?_
      refine G.bin rfl ⟨_, rfl, rfl, rfl⟩ rfl rfl rfl rfl rfl ?_
      refine G.no (t := 77) rfl (by simp) ?_
      first | refine G.pickT rfl trivial rfl rfl rfl rfl ?_ | refine G.pickF rfl trivial rfl rfl rfl rfl ?_
      refine G.moveB rfl trivial rfl rfl rfl ?_
      refine G.moveS rfl ⟨_, rfl, rfl, rfl⟩ rfl rfl rfl ?_
      refine G.bytesStr da.l[j].now rfl ⟨_, rfl, rfl, rfl⟩ rfl rfl Try.underlying31 Try.underlying5 Try.underlying9 rfl hj64.symm (hr64 _ _).cons ?_
      refine G.moveS rfl ⟨_, rfl, rfl, rfl⟩ rfl rfl rfl ?_
      refine G.bytesStr da.l[j].now rfl ⟨_, rfl, rfl, rfl⟩ rfl rfl Try.underlying31 Try.underlying5 Try.underlying9 rfl hj64.symm (hr70 _ _) ?_
      refine G.strNe rfl ⟨_, rfl, rfl, rfl⟩ rfl rfl  rfl rfl ?_
      refine G.no (t := 84) rfl (by simp) ?_
      first | refine G.pickT rfl trivial rfl rfl rfl rfl ?_ | refine G.pickF rfl trivial rfl rfl rfl rfl ?_
      refine G.nil ?_
      refine C.condF rfl ?_
      refine C.skip ?_
      refine C.region ?_
      refine G.moveI rfl trivial rfl rfl rfl ?_
      refine G.add rfl trivial rfl rfl rfl rfl (by omega) ?_
      refine G.assignI rfl trivial rfl rfl rfl ?_
      refine G.less (fun _ h => h.tail.tail) ?_
      refine G.nil ?_
      exact ⟨16 - (j + 1), by omega, j + 1, by omega, rfl, rfl, rfl, rfl, rfl, rfl⟩
    · intro hc3
      refine C.exit ?_
      refine C.seq ?_
      refine C.region ?_
      refine G.moveP rfl trivial rfl rfl rfl ?_
      refine G.call E24 rfl rfl trivial rfl rfl (calls_spec W0 [] _ bb bbl da) rfl ?_
      rintro e L2 ⟨rfl, rfl⟩
      rw [hac]
      refine G.bin rfl trivial rfl rfl rfl rfl rfl ?_
      refine G.yes (t := 88) rfl rfl ?_
      refine G.moveB rfl trivial rfl rfl rfl ?_
      refine G.moveP rfl ⟨_, rfl, rfl, rfl⟩ rfl rfl rfl ?_
      refine G.call E25 rfl rfl ⟨_, rfl, rfl, rfl⟩ rfl rfl (dead_spec W0 [] _ bb bbl da) rfl ?_
      rintro e L2 ⟨rfl, rfl⟩
      rw [had]
      first | refine G.notD rfl ⟨_, rfl, rfl, rfl⟩ rfl rfl rfl ?_ | refine G.not rfl ⟨_, rfl, rfl, rfl⟩ rfl rfl rfl ?_
      refine G.fix (d := 92) (v := .bool true) rfl ?_
      first | refine G.pickT rfl trivial rfl rfl rfl rfl ?_ | refine G.pickF rfl trivial rfl rfl rfl rfl ?_
      refine G.moveB rfl trivial rfl rfl rfl ?_
      refine G.moveP rfl ⟨_, rfl, rfl, rfl⟩ rfl rfl rfl ?_
      refine G.call E22 rfl rfl ⟨_, rfl, rfl, rfl⟩ rfl rfl (loose_spec W0 [] _ bb bbl da haok) rfl ?_
      rintro e L2 ⟨v, seg, hv, rfl, rfl⟩
      rw [hal] at hv
      obtain ⟨a96, c96, rfl, hr96⟩ := hv.form
      refine G.lenSlice rfl ⟨_, rfl, rfl, rfl⟩ rfl rfl Try.underlying46 rfl ?_
      refine G.bin rfl ⟨_, rfl, rfl, rfl⟩ rfl rfl rfl rfl rfl ?_
      refine G.yes (t := 98) rfl rfl ?_
      first | refine G.pickT rfl trivial rfl rfl rfl rfl ?_ | refine G.pickF rfl trivial rfl rfl rfl rfl ?_
      refine G.assignB rfl trivial rfl rfl rfl ?_
      refine G.nil ?_
      refine C.ret ?_
      -- end g27Fc3F
      exact ⟨rfl, _, Res.of (rs := [.tmp 8]) rfl rfl, rfl⟩
end Go.Proofs.Ytooijfnimeoeaaa
