/-
  The library's sort: lengths in bits, the numbers that are drawn, the patterns broken: walked. Of the numbers no more is told than the sort needs.
-/
import Derived.Test.YtomiidlbfcfpiaaSr1
namespace Go.Proofs.Ytomiidlbfcfpiaa
open Go Go.SL Go.RowKit Go.Sort

def lenTbl (i : Nat) : UInt8 := if i = 0 then 0 else if i < 2 then 1 else if i < 4 then 2 else if i < 8 then 3 else if i < 16 then 4 else if i < 32 then 5 else if i < 64 then 6 else if i < 128 then 7 else 8
theorem lenTbl_le {i : Nat} (h0 : 1 ≤ i) : 2 ^ (lenTbl i).toNat ≤ 2 * i ∧ (lenTbl i).toNat ≤ 8 := by
  unfold lenTbl
  rw [if_neg (by omega)]
  repeat' split
  all_goals first | (exact ⟨by show 2 ^ 1 ≤ _; omega, by decide⟩) | (exact ⟨by show 2 ^ 2 ≤ _; omega, by decide⟩) | (exact ⟨by show 2 ^ 3 ≤ _; omega, by decide⟩) | (exact ⟨by show 2 ^ 4 ≤ _; omega, by decide⟩) | (exact ⟨by show 2 ^ 5 ≤ _; omega, by decide⟩) | (exact ⟨by show 2 ^ 6 ≤ _; omega, by decide⟩) | (exact ⟨by show 2 ^ 7 ≤ _; omega, by decide⟩) | (exact ⟨by show 2 ^ 8 ≤ _; omega, by decide⟩)
theorem lenTbl_8 (i : Nat) : (lenTbl i).toNat ≤ 8 := by
  rcases Nat.eq_zero_or_pos i with rfl | h
  · decide
  · exact (lenTbl_le h).2
theorem tbl_at {s : ByteArray} (h : (List.range 256).all (fun j => decide (s[j]? = some (lenTbl j))) = true) {i : Nat} (hi : i < 256) : s[i]? = some (lenTbl i) :=
  of_decide_eq_true (List.all_eq_true.1 h i (List.mem_range.2 hi))
/-- a number of 64 bits -/
def U64 (v : Value) : Prop := ∃ r : Nat, v = .int .u64 (r : Int) ∧ r < 18446744073709551616
theorem U64.wrap (z : Int) : U64 (.int .u64 (IntKind.u64.wrap z)) := by
  refine ⟨(z % 18446744073709551616).toNat, ?_, by omega⟩
  congr 1
  rw [Int.toNat_of_nonneg (by omega)]
  simp [IntKind.wrap, IntKind.bits, IntKind.signed]
theorem wrap_u64 {z : Nat} (h : z < 18446744073709551616) : IntKind.u64.wrap (z : Int) = z := wrap_in .u64 (by simp [IntKind.min, IntKind.max, IntKind.bits, IntKind.signed]; omega)
theorem GA.some {P : Program} {W0 : World} {n : Nat} {SQ : SPost} {F : Nat → Value} {D : List Deferred} {L : List Seg} {ops : Array Oper} {K : List Seg} {T : List Nat} {listed : Array Bool} {fuel : Nat} {d : Nat} {p : Value → Prop} (h : p (F d)) (k : ∀ v, p v → GA P W0 n SQ ops K T fuel listed (upd F d v) D L) : GA P W0 n SQ ops K T fuel listed F D L := by
  have := k _ h
  rwa [upd_eq rfl] at this
theorem G.some {P : Program} {W0 : World} {n : Nat} {SQ : SPost} {F : Nat → Value} {D : List Deferred} {L : List Seg} {ops : Array Oper} {rest : List Oper} {d : Nat} {p : Value → Prop} (h : p (F d)) (k : ∀ v, p v → G P W0 n SQ ops rest (upd F d v) D L) : G P W0 n SQ ops rest F D L := by
  have := k _ h
  rwa [upd_eq rfl] at this
theorem shr_u64 (x c : Nat) (hc : c ≤ 64) : Value.int .u64 ((x : Int).fdiv (2 ^ (min (c : Int).toNat IntKind.u64.bits))) = .int .u64 ((x / 2 ^ c : Nat) : Int) := by
  congr 1
  rw [show min (c : Int).toNat IntKind.u64.bits = c by show min (c : Int).toNat 64 = c; omega, show (2 : Int) ^ c = ((2 ^ c : Nat) : Int) by simp, Int.fdiv_eq_ediv_of_nonneg _ (Int.natCast_nonneg _), ← Int.natCast_ediv]
section sort
variable (W0 : World)
/-- k places suffice for x, and no more than that -/
def LenOf (x k : Nat) : Prop := k ≤ 64 ∧ (1 ≤ x → 2 ^ k ≤ 2 * x)
theorem lenOf_step {x x1 s : Nat} (h : 1 ≤ x → 2 ^ s * x1 ≤ x ∧ 1 ≤ x1) (hs : s ≤ 56) : LenOf x (s + (lenTbl x1).toNat) := by
  refine ⟨by have := lenTbl_8 x1; omega, fun hx => ?_⟩
  obtain ⟨h1, h2⟩ := h hx
  rw [Nat.pow_add]
  calc 2 ^ s * 2 ^ (lenTbl x1).toNat ≤ 2 ^ s * (2 * x1) := Nat.mul_le_mul_left _ (lenTbl_le h2).1
    _ = 2 * (2 ^ s * x1) := by rw [← Nat.mul_assoc, ← Nat.mul_assoc, Nat.mul_comm (2 ^ s) 2]
    _ ≤ 2 * x := Nat.mul_le_mul_left _ h1
theorem len64_spec (L : List Seg) (x : Nat) (hx : x < 18446744073709551616) : FnS Try.prog W0 64 #[.int .u64 (x : Int)] L (fun e L' => ∃ k : Nat, LenOf x k ∧ L' = L ∧ e = .returned (.int .i64 (k : Int))) := by
  refine FnS.of (args := [.int .u64 (x : Int)]) Try.func64 rfl rfl ?_
  refine C.seq ?_
  refine C.region ?_
  refine G.assignI rfl trivial rfl rfl rfl ?_
  refine G.nil ?_
  refine C.seq ?_
  refine C.seq ?_
  refine C.region ?_
  refine G.moveI rfl trivial rfl rfl rfl ?_
  refine G.bin rfl trivial rfl rfl rfl rfl rfl ?_
  refine G.nil ?_
  refine C.cond _ rfl ?_ ?_
  · intro hc0
    refine C.seq ?_
    refine C.region ?_
    refine G.moveI rfl trivial rfl rfl rfl ?_
    refine G.shr rfl trivial rfl rfl rfl rfl (by omega) ?_
    refine G.fix (d := 6) (shr_u64 x 32 (by decide)) ?_
    refine G.assignI rfl trivial rfl rfl rfl ?_
    refine G.nil ?_
    refine C.region ?_
    refine G.assignI rfl trivial rfl rfl rfl ?_
    obtain ⟨x1, hx1⟩ : ∃ x1 : Nat, x1 = x / 2 ^ 32 := ⟨_, rfl⟩
    obtain ⟨s1, hs1⟩ : ∃ s1 : Nat, s1 = 32 := ⟨_, rfl⟩
    refine G.fix (d := 0) (v := .int .u64 (x1 : Int)) (by rw [hx1]; rfl) ?_
    refine G.fix (d := 2) (v := .int .i64 (s1 : Int)) (by rw [hs1]; rfl) ?_
    have k1 : 1 ≤ x → 2 ^ s1 * x1 ≤ x ∧ 1 ≤ x1 := fun _ => by rw [hs1, hx1]; omega
    have l1 : x1 < 4294967296 ∧ s1 ≤ 32 := by rw [hx1]; omega
    refine G.nil ?_
    refine C.seq ?_
    refine C.seq ?_
    refine C.region ?_
    refine G.moveI rfl trivial rfl rfl rfl ?_
    refine G.bin rfl trivial rfl rfl rfl rfl rfl ?_
    refine G.nil ?_
    refine C.cond _ rfl ?_ ?_
    · intro hc1
      refine C.seq ?_
      refine C.region ?_
      refine G.moveI rfl trivial rfl rfl rfl ?_
      refine G.shr rfl trivial rfl rfl rfl rfl (by omega) ?_
      refine G.fix (d := 10) (shr_u64 x1 16 (by decide)) ?_
      refine G.assignI rfl trivial rfl rfl rfl ?_
      refine G.nil ?_
      refine C.region ?_
      refine G.moveI rfl trivial rfl rfl rfl ?_
      refine G.addN (j := 16) rfl trivial rfl rfl rfl rfl (by omega) ?_
      refine G.assignI rfl trivial rfl rfl rfl ?_
      obtain ⟨x2, hx2⟩ : ∃ x2 : Nat, x2 = x1 / 2 ^ 16 := ⟨_, rfl⟩
      obtain ⟨s2, hs2⟩ : ∃ s2 : Nat, s2 = s1 + 16 := ⟨_, rfl⟩
      refine G.fix (d := 0) (v := .int .u64 (x2 : Int)) (by rw [hx2]; rfl) ?_
      refine G.fix (d := 2) (v := .int .i64 (s2 : Int)) (by rw [hs2]; rfl) ?_
      have k2 : 1 ≤ x → 2 ^ s2 * x2 ≤ x ∧ 1 ≤ x2 := fun h => by
        obtain ⟨g1, g2⟩ := k1 h
        refine ⟨?_, by rw [hx2]; omega⟩
        rw [hs2, hx2, Nat.pow_add, Nat.mul_assoc]
        exact Nat.le_trans (Nat.mul_le_mul_left _ (Nat.mul_div_le _ _)) g1
      have l2 : x2 < 65536 ∧ s2 ≤ 48 := by rw [hx2]; omega
      refine G.nil ?_
      refine C.seq ?_
      refine C.seq ?_
      refine C.region ?_
      refine G.moveI rfl trivial rfl rfl rfl ?_
      refine G.bin rfl trivial rfl rfl rfl rfl rfl ?_
      refine G.nil ?_
      refine C.cond _ rfl ?_ ?_
      · intro hc2
        refine C.seq ?_
        refine C.region ?_
        refine G.moveI rfl trivial rfl rfl rfl ?_
        refine G.shr rfl trivial rfl rfl rfl rfl (by omega) ?_
        refine G.fix (d := 16) (shr_u64 x2 8 (by decide)) ?_
        refine G.assignI rfl trivial rfl rfl rfl ?_
        refine G.nil ?_
        refine C.region ?_
        refine G.moveI rfl trivial rfl rfl rfl ?_
        refine G.addN (j := 8) rfl trivial rfl rfl rfl rfl (by omega) ?_
        refine G.assignI rfl trivial rfl rfl rfl ?_
        obtain ⟨x3, hx3⟩ : ∃ x3 : Nat, x3 = x2 / 2 ^ 8 := ⟨_, rfl⟩
        obtain ⟨s3, hs3⟩ : ∃ s3 : Nat, s3 = s2 + 8 := ⟨_, rfl⟩
        refine G.fix (d := 0) (v := .int .u64 (x3 : Int)) (by rw [hx3]; rfl) ?_
        refine G.fix (d := 2) (v := .int .i64 (s3 : Int)) (by rw [hs3]; rfl) ?_
        have k3 : 1 ≤ x → 2 ^ s3 * x3 ≤ x ∧ 1 ≤ x3 := fun h => by
          obtain ⟨g1, g2⟩ := k2 h
          refine ⟨?_, by rw [hx3]; omega⟩
          rw [hs3, hx3, Nat.pow_add, Nat.mul_assoc]
          exact Nat.le_trans (Nat.mul_le_mul_left _ (Nat.mul_div_le _ _)) g1
        have l3 : x3 < 256 ∧ s3 ≤ 56 := by rw [hx3]; omega
        refine G.nil ?_
        refine C.seq ?_
        refine C.region ?_
        refine G.moveI rfl trivial rfl rfl rfl ?_
        refine G.moveI rfl trivial rfl rfl rfl ?_
        refine G.convInt rfl trivial rfl rfl Try.underlying104 Try.underlying5 rfl ?_
        refine G.fix (d := 21) (v := .int .u8 (x3 : Int)) (by show Value.int .u8 (IntKind.u8.wrap (x3 : Int)) = _; rw [wrap_in .u8 (by simp [IntKind.min, IntKind.max, IntKind.bits, IntKind.signed]; omega)]) ?_
        refine G.indexStr (c := lenTbl x3) rfl trivial rfl rfl Try.underlying9 rfl rfl (tbl_at (by kernel_rfl) (by omega)) ?_
        refine G.convInt rfl trivial rfl rfl Try.underlying5 Try.underlying3 rfl ?_
        refine G.fix (d := 23) (v := .int .i64 (((lenTbl x3).toNat : Nat) : Int)) (by show Value.int .i64 (IntKind.i64.wrap _) = _; rw [wrap_i64 (by have := lenTbl_8 x3; omega)]) ?_
        refine G.addN rfl trivial rfl rfl rfl rfl (by have := lenTbl_8 x3; omega) ?_
        refine G.assignI rfl trivial rfl rfl rfl ?_
        refine G.nil ?_
        refine C.ret ?_
        -- end c0Tc1Tc2T
        exact ⟨rfl, _, Res.of (rs := [.tmp 2]) rfl rfl, _, lenOf_step k3 (by omega), rfl, rfl⟩
      · intro hc2
        obtain ⟨x3, hx3⟩ : ∃ x3 : Nat, x3 = x2 := ⟨_, rfl⟩
        obtain ⟨s3, hs3⟩ : ∃ s3 : Nat, s3 = s2 := ⟨_, rfl⟩
        refine C.fix (d := 0) (v := .int .u64 (x3 : Int)) (by rw [hx3]; rfl) ?_
        refine C.fix (d := 2) (v := .int .i64 (s3 : Int)) (by rw [hs3]; rfl) ?_
        have k3 : 1 ≤ x → 2 ^ s3 * x3 ≤ x ∧ 1 ≤ x3 := by rw [hs3, hx3]; exact k2
        have l3 : x3 < 256 ∧ s3 ≤ 56 := by rw [hx3]; omega
        refine C.skip ?_
        refine C.seq ?_
        refine C.region ?_
        refine G.moveI rfl trivial rfl rfl rfl ?_
        refine G.moveI rfl trivial rfl rfl rfl ?_
        refine G.convInt rfl trivial rfl rfl Try.underlying104 Try.underlying5 rfl ?_
        refine G.fix (d := 21) (v := .int .u8 (x3 : Int)) (by show Value.int .u8 (IntKind.u8.wrap (x3 : Int)) = _; rw [wrap_in .u8 (by simp [IntKind.min, IntKind.max, IntKind.bits, IntKind.signed]; omega)]) ?_
        refine G.indexStr (c := lenTbl x3) rfl trivial rfl rfl Try.underlying9 rfl rfl (tbl_at (by kernel_rfl) (by omega)) ?_
        refine G.convInt rfl trivial rfl rfl Try.underlying5 Try.underlying3 rfl ?_
        refine G.fix (d := 23) (v := .int .i64 (((lenTbl x3).toNat : Nat) : Int)) (by show Value.int .i64 (IntKind.i64.wrap _) = _; rw [wrap_i64 (by have := lenTbl_8 x3; omega)]) ?_
        refine G.addN rfl trivial rfl rfl rfl rfl (by have := lenTbl_8 x3; omega) ?_
        refine G.assignI rfl trivial rfl rfl rfl ?_
        refine G.nil ?_
        refine C.ret ?_
        -- end c0Tc1Tc2F
        exact ⟨rfl, _, Res.of (rs := [.tmp 2]) rfl rfl, _, lenOf_step k3 (by omega), rfl, rfl⟩
    · intro hc1
      obtain ⟨x2, hx2⟩ : ∃ x2 : Nat, x2 = x1 := ⟨_, rfl⟩
      obtain ⟨s2, hs2⟩ : ∃ s2 : Nat, s2 = s1 := ⟨_, rfl⟩
      refine C.fix (d := 0) (v := .int .u64 (x2 : Int)) (by rw [hx2]; rfl) ?_
      refine C.fix (d := 2) (v := .int .i64 (s2 : Int)) (by rw [hs2]; rfl) ?_
      have k2 : 1 ≤ x → 2 ^ s2 * x2 ≤ x ∧ 1 ≤ x2 := by rw [hs2, hx2]; exact k1
      have l2 : x2 < 65536 ∧ s2 ≤ 48 := by rw [hx2]; omega
      refine C.skip ?_
      refine C.seq ?_
      refine C.seq ?_
      refine C.region ?_
      refine G.moveI rfl trivial rfl rfl rfl ?_
      refine G.bin rfl trivial rfl rfl rfl rfl rfl ?_
      refine G.nil ?_
      refine C.cond _ rfl ?_ ?_
      · intro hc2
        refine C.seq ?_
        refine C.region ?_
        refine G.moveI rfl trivial rfl rfl rfl ?_
        refine G.shr rfl trivial rfl rfl rfl rfl (by omega) ?_
        refine G.fix (d := 16) (shr_u64 x2 8 (by decide)) ?_
        refine G.assignI rfl trivial rfl rfl rfl ?_
        refine G.nil ?_
        refine C.region ?_
        refine G.moveI rfl trivial rfl rfl rfl ?_
        refine G.addN (j := 8) rfl trivial rfl rfl rfl rfl (by omega) ?_
        refine G.assignI rfl trivial rfl rfl rfl ?_
        obtain ⟨x3, hx3⟩ : ∃ x3 : Nat, x3 = x2 / 2 ^ 8 := ⟨_, rfl⟩
        obtain ⟨s3, hs3⟩ : ∃ s3 : Nat, s3 = s2 + 8 := ⟨_, rfl⟩
        refine G.fix (d := 0) (v := .int .u64 (x3 : Int)) (by rw [hx3]; rfl) ?_
        refine G.fix (d := 2) (v := .int .i64 (s3 : Int)) (by rw [hs3]; rfl) ?_
        have k3 : 1 ≤ x → 2 ^ s3 * x3 ≤ x ∧ 1 ≤ x3 := fun h => by
          obtain ⟨g1, g2⟩ := k2 h
          refine ⟨?_, by rw [hx3]; omega⟩
          rw [hs3, hx3, Nat.pow_add, Nat.mul_assoc]
          exact Nat.le_trans (Nat.mul_le_mul_left _ (Nat.mul_div_le _ _)) g1
        have l3 : x3 < 256 ∧ s3 ≤ 56 := by rw [hx3]; omega
        refine G.nil ?_
        refine C.seq ?_
        refine C.region ?_
        refine G.moveI rfl trivial rfl rfl rfl ?_
        refine G.moveI rfl trivial rfl rfl rfl ?_
        refine G.convInt rfl trivial rfl rfl Try.underlying104 Try.underlying5 rfl ?_
        refine G.fix (d := 21) (v := .int .u8 (x3 : Int)) (by show Value.int .u8 (IntKind.u8.wrap (x3 : Int)) = _; rw [wrap_in .u8 (by simp [IntKind.min, IntKind.max, IntKind.bits, IntKind.signed]; omega)]) ?_
        refine G.indexStr (c := lenTbl x3) rfl trivial rfl rfl Try.underlying9 rfl rfl (tbl_at (by kernel_rfl) (by omega)) ?_
        refine G.convInt rfl trivial rfl rfl Try.underlying5 Try.underlying3 rfl ?_
        refine G.fix (d := 23) (v := .int .i64 (((lenTbl x3).toNat : Nat) : Int)) (by show Value.int .i64 (IntKind.i64.wrap _) = _; rw [wrap_i64 (by have := lenTbl_8 x3; omega)]) ?_
        refine G.addN rfl trivial rfl rfl rfl rfl (by have := lenTbl_8 x3; omega) ?_
        refine G.assignI rfl trivial rfl rfl rfl ?_
        refine G.nil ?_
        refine C.ret ?_
        -- end c0Tc1Fc2T
        exact ⟨rfl, _, Res.of (rs := [.tmp 2]) rfl rfl, _, lenOf_step k3 (by omega), rfl, rfl⟩
      · intro hc2
        obtain ⟨x3, hx3⟩ : ∃ x3 : Nat, x3 = x2 := ⟨_, rfl⟩
        obtain ⟨s3, hs3⟩ : ∃ s3 : Nat, s3 = s2 := ⟨_, rfl⟩
        refine C.fix (d := 0) (v := .int .u64 (x3 : Int)) (by rw [hx3]; rfl) ?_
        refine C.fix (d := 2) (v := .int .i64 (s3 : Int)) (by rw [hs3]; rfl) ?_
        have k3 : 1 ≤ x → 2 ^ s3 * x3 ≤ x ∧ 1 ≤ x3 := by rw [hs3, hx3]; exact k2
        have l3 : x3 < 256 ∧ s3 ≤ 56 := by rw [hx3]; omega
        refine C.skip ?_
        refine C.seq ?_
        refine C.region ?_
        refine G.moveI rfl trivial rfl rfl rfl ?_
        refine G.moveI rfl trivial rfl rfl rfl ?_
        refine G.convInt rfl trivial rfl rfl Try.underlying104 Try.underlying5 rfl ?_
        refine G.fix (d := 21) (v := .int .u8 (x3 : Int)) (by show Value.int .u8 (IntKind.u8.wrap (x3 : Int)) = _; rw [wrap_in .u8 (by simp [IntKind.min, IntKind.max, IntKind.bits, IntKind.signed]; omega)]) ?_
        refine G.indexStr (c := lenTbl x3) rfl trivial rfl rfl Try.underlying9 rfl rfl (tbl_at (by kernel_rfl) (by omega)) ?_
        refine G.convInt rfl trivial rfl rfl Try.underlying5 Try.underlying3 rfl ?_
        refine G.fix (d := 23) (v := .int .i64 (((lenTbl x3).toNat : Nat) : Int)) (by show Value.int .i64 (IntKind.i64.wrap _) = _; rw [wrap_i64 (by have := lenTbl_8 x3; omega)]) ?_
        refine G.addN rfl trivial rfl rfl rfl rfl (by have := lenTbl_8 x3; omega) ?_
        refine G.assignI rfl trivial rfl rfl rfl ?_
        refine G.nil ?_
        refine C.ret ?_
        -- end c0Tc1Fc2F
        exact ⟨rfl, _, Res.of (rs := [.tmp 2]) rfl rfl, _, lenOf_step k3 (by omega), rfl, rfl⟩
  · intro hc0
    obtain ⟨x1, hx1⟩ : ∃ x1 : Nat, x1 = x := ⟨_, rfl⟩
    obtain ⟨s1, hs1⟩ : ∃ s1 : Nat, s1 = 0 := ⟨_, rfl⟩
    refine C.fix (d := 0) (v := .int .u64 (x1 : Int)) (by rw [hx1]; rfl) ?_
    refine C.fix (d := 2) (v := .int .i64 (s1 : Int)) (by rw [hs1]; rfl) ?_
    have k1 : 1 ≤ x → 2 ^ s1 * x1 ≤ x ∧ 1 ≤ x1 := fun _ => by rw [hs1, hx1]; omega
    have l1 : x1 < 4294967296 ∧ s1 ≤ 32 := by rw [hx1]; omega
    refine C.skip ?_
    refine C.seq ?_
    refine C.seq ?_
    refine C.region ?_
    refine G.moveI rfl trivial rfl rfl rfl ?_
    refine G.bin rfl trivial rfl rfl rfl rfl rfl ?_
    refine G.nil ?_
    refine C.cond _ rfl ?_ ?_
    · intro hc1
      refine C.seq ?_
      refine C.region ?_
      refine G.moveI rfl trivial rfl rfl rfl ?_
      refine G.shr rfl trivial rfl rfl rfl rfl (by omega) ?_
      refine G.fix (d := 10) (shr_u64 x1 16 (by decide)) ?_
      refine G.assignI rfl trivial rfl rfl rfl ?_
      refine G.nil ?_
      refine C.region ?_
      refine G.moveI rfl trivial rfl rfl rfl ?_
      refine G.addN (j := 16) rfl trivial rfl rfl rfl rfl (by omega) ?_
      refine G.assignI rfl trivial rfl rfl rfl ?_
      obtain ⟨x2, hx2⟩ : ∃ x2 : Nat, x2 = x1 / 2 ^ 16 := ⟨_, rfl⟩
      obtain ⟨s2, hs2⟩ : ∃ s2 : Nat, s2 = s1 + 16 := ⟨_, rfl⟩
      refine G.fix (d := 0) (v := .int .u64 (x2 : Int)) (by rw [hx2]; rfl) ?_
      refine G.fix (d := 2) (v := .int .i64 (s2 : Int)) (by rw [hs2]; rfl) ?_
      have k2 : 1 ≤ x → 2 ^ s2 * x2 ≤ x ∧ 1 ≤ x2 := fun h => by
        obtain ⟨g1, g2⟩ := k1 h
        refine ⟨?_, by rw [hx2]; omega⟩
        rw [hs2, hx2, Nat.pow_add, Nat.mul_assoc]
        exact Nat.le_trans (Nat.mul_le_mul_left _ (Nat.mul_div_le _ _)) g1
      have l2 : x2 < 65536 ∧ s2 ≤ 48 := by rw [hx2]; omega
      refine G.nil ?_
      refine C.seq ?_
      refine C.seq ?_
      refine C.region ?_
      refine G.moveI rfl trivial rfl rfl rfl ?_
      refine G.bin rfl trivial rfl rfl rfl rfl rfl ?_
      refine G.nil ?_
      refine C.cond _ rfl ?_ ?_
      · intro hc2
        refine C.seq ?_
        refine C.region ?_
        refine G.moveI rfl trivial rfl rfl rfl ?_
        refine G.shr rfl trivial rfl rfl rfl rfl (by omega) ?_
        refine G.fix (d := 16) (shr_u64 x2 8 (by decide)) ?_
        refine G.assignI rfl trivial rfl rfl rfl ?_
        refine G.nil ?_
        refine C.region ?_
        refine G.moveI rfl trivial rfl rfl rfl ?_
        refine G.addN (j := 8) rfl trivial rfl rfl rfl rfl (by omega) ?_
        refine G.assignI rfl trivial rfl rfl rfl ?_
        obtain ⟨x3, hx3⟩ : ∃ x3 : Nat, x3 = x2 / 2 ^ 8 := ⟨_, rfl⟩
        obtain ⟨s3, hs3⟩ : ∃ s3 : Nat, s3 = s2 + 8 := ⟨_, rfl⟩
        refine G.fix (d := 0) (v := .int .u64 (x3 : Int)) (by rw [hx3]; rfl) ?_
        refine G.fix (d := 2) (v := .int .i64 (s3 : Int)) (by rw [hs3]; rfl) ?_
        have k3 : 1 ≤ x → 2 ^ s3 * x3 ≤ x ∧ 1 ≤ x3 := fun h => by
          obtain ⟨g1, g2⟩ := k2 h
          refine ⟨?_, by rw [hx3]; omega⟩
          rw [hs3, hx3, Nat.pow_add, Nat.mul_assoc]
          exact Nat.le_trans (Nat.mul_le_mul_left _ (Nat.mul_div_le _ _)) g1
        have l3 : x3 < 256 ∧ s3 ≤ 56 := by rw [hx3]; omega
        refine G.nil ?_
        refine C.seq ?_
        refine C.region ?_
        refine G.moveI rfl trivial rfl rfl rfl ?_
        refine G.moveI rfl trivial rfl rfl rfl ?_
        refine G.convInt rfl trivial rfl rfl Try.underlying104 Try.underlying5 rfl ?_
        refine G.fix (d := 21) (v := .int .u8 (x3 : Int)) (by show Value.int .u8 (IntKind.u8.wrap (x3 : Int)) = _; rw [wrap_in .u8 (by simp [IntKind.min, IntKind.max, IntKind.bits, IntKind.signed]; omega)]) ?_
        refine G.indexStr (c := lenTbl x3) rfl trivial rfl rfl Try.underlying9 rfl rfl (tbl_at (by kernel_rfl) (by omega)) ?_
        refine G.convInt rfl trivial rfl rfl Try.underlying5 Try.underlying3 rfl ?_
        refine G.fix (d := 23) (v := .int .i64 (((lenTbl x3).toNat : Nat) : Int)) (by show Value.int .i64 (IntKind.i64.wrap _) = _; rw [wrap_i64 (by have := lenTbl_8 x3; omega)]) ?_
        refine G.addN rfl trivial rfl rfl rfl rfl (by have := lenTbl_8 x3; omega) ?_
        refine G.assignI rfl trivial rfl rfl rfl ?_
        refine G.nil ?_
        refine C.ret ?_
        -- end c0Fc1Tc2T
        exact ⟨rfl, _, Res.of (rs := [.tmp 2]) rfl rfl, _, lenOf_step k3 (by omega), rfl, rfl⟩
      · intro hc2
        obtain ⟨x3, hx3⟩ : ∃ x3 : Nat, x3 = x2 := ⟨_, rfl⟩
        obtain ⟨s3, hs3⟩ : ∃ s3 : Nat, s3 = s2 := ⟨_, rfl⟩
        refine C.fix (d := 0) (v := .int .u64 (x3 : Int)) (by rw [hx3]; rfl) ?_
        refine C.fix (d := 2) (v := .int .i64 (s3 : Int)) (by rw [hs3]; rfl) ?_
        have k3 : 1 ≤ x → 2 ^ s3 * x3 ≤ x ∧ 1 ≤ x3 := by rw [hs3, hx3]; exact k2
        have l3 : x3 < 256 ∧ s3 ≤ 56 := by rw [hx3]; omega
        refine C.skip ?_
        refine C.seq ?_
        refine C.region ?_
        refine G.moveI rfl trivial rfl rfl rfl ?_
        refine G.moveI rfl trivial rfl rfl rfl ?_
        refine G.convInt rfl trivial rfl rfl Try.underlying104 Try.underlying5 rfl ?_
        refine G.fix (d := 21) (v := .int .u8 (x3 : Int)) (by show Value.int .u8 (IntKind.u8.wrap (x3 : Int)) = _; rw [wrap_in .u8 (by simp [IntKind.min, IntKind.max, IntKind.bits, IntKind.signed]; omega)]) ?_
        refine G.indexStr (c := lenTbl x3) rfl trivial rfl rfl Try.underlying9 rfl rfl (tbl_at (by kernel_rfl) (by omega)) ?_
        refine G.convInt rfl trivial rfl rfl Try.underlying5 Try.underlying3 rfl ?_
        refine G.fix (d := 23) (v := .int .i64 (((lenTbl x3).toNat : Nat) : Int)) (by show Value.int .i64 (IntKind.i64.wrap _) = _; rw [wrap_i64 (by have := lenTbl_8 x3; omega)]) ?_
        refine G.addN rfl trivial rfl rfl rfl rfl (by have := lenTbl_8 x3; omega) ?_
        refine G.assignI rfl trivial rfl rfl rfl ?_
        refine G.nil ?_
        refine C.ret ?_
        -- end c0Fc1Tc2F
        exact ⟨rfl, _, Res.of (rs := [.tmp 2]) rfl rfl, _, lenOf_step k3 (by omega), rfl, rfl⟩
    · intro hc1
      obtain ⟨x2, hx2⟩ : ∃ x2 : Nat, x2 = x1 := ⟨_, rfl⟩
      obtain ⟨s2, hs2⟩ : ∃ s2 : Nat, s2 = s1 := ⟨_, rfl⟩
      refine C.fix (d := 0) (v := .int .u64 (x2 : Int)) (by rw [hx2]; rfl) ?_
      refine C.fix (d := 2) (v := .int .i64 (s2 : Int)) (by rw [hs2]; rfl) ?_
      have k2 : 1 ≤ x → 2 ^ s2 * x2 ≤ x ∧ 1 ≤ x2 := by rw [hs2, hx2]; exact k1
      have l2 : x2 < 65536 ∧ s2 ≤ 48 := by rw [hx2]; omega
      refine C.skip ?_
      refine C.seq ?_
      refine C.seq ?_
      refine C.region ?_
      refine G.moveI rfl trivial rfl rfl rfl ?_
      refine G.bin rfl trivial rfl rfl rfl rfl rfl ?_
      refine G.nil ?_
      refine C.cond _ rfl ?_ ?_
      · intro hc2
        refine C.seq ?_
        refine C.region ?_
        refine G.moveI rfl trivial rfl rfl rfl ?_
        refine G.shr rfl trivial rfl rfl rfl rfl (by omega) ?_
        refine G.fix (d := 16) (shr_u64 x2 8 (by decide)) ?_
        refine G.assignI rfl trivial rfl rfl rfl ?_
        refine G.nil ?_
        refine C.region ?_
        refine G.moveI rfl trivial rfl rfl rfl ?_
        refine G.addN (j := 8) rfl trivial rfl rfl rfl rfl (by omega) ?_
        refine G.assignI rfl trivial rfl rfl rfl ?_
        obtain ⟨x3, hx3⟩ : ∃ x3 : Nat, x3 = x2 / 2 ^ 8 := ⟨_, rfl⟩
        obtain ⟨s3, hs3⟩ : ∃ s3 : Nat, s3 = s2 + 8 := ⟨_, rfl⟩
        refine G.fix (d := 0) (v := .int .u64 (x3 : Int)) (by rw [hx3]; rfl) ?_
        refine G.fix (d := 2) (v := .int .i64 (s3 : Int)) (by rw [hs3]; rfl) ?_
        have k3 : 1 ≤ x → 2 ^ s3 * x3 ≤ x ∧ 1 ≤ x3 := fun h => by
          obtain ⟨g1, g2⟩ := k2 h
          refine ⟨?_, by rw [hx3]; omega⟩
          rw [hs3, hx3, Nat.pow_add, Nat.mul_assoc]
          exact Nat.le_trans (Nat.mul_le_mul_left _ (Nat.mul_div_le _ _)) g1
        have l3 : x3 < 256 ∧ s3 ≤ 56 := by rw [hx3]; omega
        refine G.nil ?_
        refine C.seq ?_
        refine C.region ?_
        refine G.moveI rfl trivial rfl rfl rfl ?_
        refine G.moveI rfl trivial rfl rfl rfl ?_
        refine G.convInt rfl trivial rfl rfl Try.underlying104 Try.underlying5 rfl ?_
        refine G.fix (d := 21) (v := .int .u8 (x3 : Int)) (by show Value.int .u8 (IntKind.u8.wrap (x3 : Int)) = _; rw [wrap_in .u8 (by simp [IntKind.min, IntKind.max, IntKind.bits, IntKind.signed]; omega)]) ?_
        refine G.indexStr (c := lenTbl x3) rfl trivial rfl rfl Try.underlying9 rfl rfl (tbl_at (by kernel_rfl) (by omega)) ?_
        refine G.convInt rfl trivial rfl rfl Try.underlying5 Try.underlying3 rfl ?_
        refine G.fix (d := 23) (v := .int .i64 (((lenTbl x3).toNat : Nat) : Int)) (by show Value.int .i64 (IntKind.i64.wrap _) = _; rw [wrap_i64 (by have := lenTbl_8 x3; omega)]) ?_
        refine G.addN rfl trivial rfl rfl rfl rfl (by have := lenTbl_8 x3; omega) ?_
        refine G.assignI rfl trivial rfl rfl rfl ?_
        refine G.nil ?_
        refine C.ret ?_
        -- end c0Fc1Fc2T
        exact ⟨rfl, _, Res.of (rs := [.tmp 2]) rfl rfl, _, lenOf_step k3 (by omega), rfl, rfl⟩
      · intro hc2
        obtain ⟨x3, hx3⟩ : ∃ x3 : Nat, x3 = x2 := ⟨_, rfl⟩
        obtain ⟨s3, hs3⟩ : ∃ s3 : Nat, s3 = s2 := ⟨_, rfl⟩
        refine C.fix (d := 0) (v := .int .u64 (x3 : Int)) (by rw [hx3]; rfl) ?_
        refine C.fix (d := 2) (v := .int .i64 (s3 : Int)) (by rw [hs3]; rfl) ?_
        have k3 : 1 ≤ x → 2 ^ s3 * x3 ≤ x ∧ 1 ≤ x3 := by rw [hs3, hx3]; exact k2
        have l3 : x3 < 256 ∧ s3 ≤ 56 := by rw [hx3]; omega
        refine C.skip ?_
        refine C.seq ?_
        refine C.region ?_
        refine G.moveI rfl trivial rfl rfl rfl ?_
        refine G.moveI rfl trivial rfl rfl rfl ?_
        refine G.convInt rfl trivial rfl rfl Try.underlying104 Try.underlying5 rfl ?_
        refine G.fix (d := 21) (v := .int .u8 (x3 : Int)) (by show Value.int .u8 (IntKind.u8.wrap (x3 : Int)) = _; rw [wrap_in .u8 (by simp [IntKind.min, IntKind.max, IntKind.bits, IntKind.signed]; omega)]) ?_
        refine G.indexStr (c := lenTbl x3) rfl trivial rfl rfl Try.underlying9 rfl rfl (tbl_at (by kernel_rfl) (by omega)) ?_
        refine G.convInt rfl trivial rfl rfl Try.underlying5 Try.underlying3 rfl ?_
        refine G.fix (d := 23) (v := .int .i64 (((lenTbl x3).toNat : Nat) : Int)) (by show Value.int .i64 (IntKind.i64.wrap _) = _; rw [wrap_i64 (by have := lenTbl_8 x3; omega)]) ?_
        refine G.addN rfl trivial rfl rfl rfl rfl (by have := lenTbl_8 x3; omega) ?_
        refine G.assignI rfl trivial rfl rfl rfl ?_
        refine G.nil ?_
        refine C.ret ?_
        -- end c0Fc1Fc2F
        exact ⟨rfl, _, Res.of (rs := [.tmp 2]) rfl rfl, _, lenOf_step k3 (by omega), rfl, rfl⟩
theorem len_spec (L : List Seg) (x : Nat) (hx : x < 18446744073709551616) : FnS Try.prog W0 39 #[.int .u64 (x : Int)] L (fun e L' => ∃ k : Nat, LenOf x k ∧ L' = L ∧ e = .returned (.int .i64 (k : Int))) := by
  refine FnS.of (args := [.int .u64 (x : Int)]) Try.func39 rfl rfl ?_
  refine C.seq ?_
  refine C.region ?_
  refine G.assignI rfl trivial rfl rfl rfl ?_
  refine G.nil ?_
  refine C.seq ?_
  refine C.condF rfl ?_
  refine C.skip ?_
  refine C.seq ?_
  refine C.region ?_
  refine G.moveI rfl trivial rfl rfl rfl ?_
  refine G.call E64 rfl rfl trivial rfl rfl (len64_spec W0 _ x hx) rfl ?_
  rintro e L2 ⟨k, hk, rfl, rfl⟩
  refine G.assignI rfl trivial rfl rfl rfl ?_
  refine G.nil ?_
  refine C.ret ?_
  -- end 
  exact ⟨rfl, _, Res.of (rs := [.tmp 2]) rfl rfl, k, hk, rfl, rfl⟩
theorem power_spec (L : List Seg) (x : Nat) (h1 : 1 ≤ x) (hx : x ≤ 4611686018427387904) : FnS Try.prog W0 68 #[.int .i64 (x : Int)] L (fun e L' => ∃ p : Nat, 1 ≤ p ∧ p ≤ 2 * x ∧ L' = L ∧ e = .returned (.int .u64 (p : Int))) := by
  refine FnS.of (args := [.int .i64 (x : Int)]) Try.func68 rfl rfl ?_
  refine C.seq ?_
  refine C.region ?_
  refine G.assignI rfl trivial rfl rfl rfl ?_
  refine G.nil ?_
  refine C.seq ?_
  refine C.region ?_
  refine G.moveI rfl trivial rfl rfl rfl ?_
  refine G.convInt rfl trivial rfl rfl Try.underlying3 Try.underlying73 rfl ?_
  refine G.fix (d := 4) (v := .int .u64 (x : Int)) (by show Value.int .u64 (IntKind.u64.wrap (x : Int)) = _; rw [wrap_u64 (by omega)]) ?_
  refine G.call E39 rfl rfl trivial rfl rfl (len_spec W0 _ x (by omega)) rfl ?_
  rintro e L2 ⟨k, hk, rfl, rfl⟩
  have hp := hk.2 h1
  have hk63 : k ≤ 63 := by
    rcases Nat.lt_or_ge 63 k with h | h
    · have := Nat.pow_le_pow_right (n := 2) (by decide) (show 64 ≤ k by omega)
      omega
    · exact h
  refine G.shl rfl trivial rfl rfl rfl rfl (by omega) ?_
  refine G.fix (d := 6) (v := .int .u64 ((2 ^ k : Nat) : Int)) (by show Value.int .u64 (IntKind.u64.wrap (1 * 2 ^ (min (k : Int).toNat IntKind.u64.bits))) = _; rw [show min (k : Int).toNat IntKind.u64.bits = k by show min (k : Int).toNat 64 = k; omega, Int.one_mul, show (2 : Int) ^ k = ((2 ^ k : Nat) : Int) by simp, wrap_u64 (by omega)]) ?_
  refine G.assignI rfl trivial rfl rfl rfl ?_
  refine G.nil ?_
  refine C.ret ?_
  -- end 
  exact ⟨rfl, _, Res.of (rs := [.tmp 2]) rfl rfl, 2 ^ k, Nat.two_pow_pos k, hp, rfl, rfl⟩
theorem next_spec (L : List Seg) (bs r : Nat) : FnS Try.prog W0 69 #[.pointer (some ⟨bs, 0, none⟩)] ([(bs, .row [.int .u64 (r : Int)] 108 1)] :: L) (fun e L' => ∃ r' : Nat, r' < 18446744073709551616 ∧ L' = [(bs, .row [.int .u64 (r' : Int)] 108 1)] :: L ∧ e = .returned (.int .u64 (r' : Int))) := by
  refine FnS.of (args := [.pointer (some ⟨bs, 0, none⟩)]) Try.func69 rfl rfl ?_
  refine C.seq ?_
  refine C.region ?_
  refine G.assignI rfl trivial rfl rfl rfl ?_
  refine G.nil ?_
  refine C.seq ?_
  refine C.drawn mixed (_) [9] (fun _ h => h) ?_
  refine GA.pure (i := 0) (fun _ _ _ _ _ h => h) rfl (by kernel_rfl) trivial rfl rfl (Y.moveP rfl rfl) (#[true, false, false, false, false, false, false, false, false, false]) (by kernel_rfl) ?_
  first | refine GA.pure (i := 1) (fun _ _ _ _ _ h => h) rfl (by kernel_rfl) trivial rfl rfl (Y.nilCheckP rfl rfl) (#[true, true, false, false, false, false, false, false, false, false]) (by kernel_rfl) ?_ | refine GA.pure (i := 1) (fun _ _ _ _ _ h => h) rfl (by kernel_rfl) trivial rfl rfl (Y.nilCheckF rfl rfl) (#[true, true, false, false, false, false, false, false, false, false]) (by kernel_rfl) ?_
  refine GA.read (i := 2) (fun _ _ _ _ _ h => h) rfl (by kernel_rfl) (by kernel_rfl) trivial rfl rfl (Y.loadAt (by first | exact .here | exact .next .here | exact .next (.next .here) | exact .next (.next (.next .here)) | exact .next (.next (.next (.next .here))) | exact .next (.next (.next (.next (.next .here)))) | exact .next (.next (.next (.next (.next (.next .here))))) | exact .next (.next (.next (.next (.next (.next (.next .here)))))) | exact .in1 | exact .next .in1 | exact .next (.next .in1) | exact .next (.next (.next .in1)) | exact .next (.next (.next (.next .in1))) | exact .in2 | exact .next .in2 | exact .next (.next .in2) | exact .next (.next (.next .in2)) | exact .next (.next (.next (.next .in2))) | exact .app .here | exact .app (.next .here) | exact .app (.next (.next .here)) | exact .app (.next (.next (.next .here))) | exact .app (.next (.next (.next (.next .here)))) | exact .app (.next (.next (.next (.next (.next .here))))) | exact .app (.next (.next (.next (.next (.next (.next .here)))))) | exact .app (.next (.next (.next (.next (.next (.next (.next .here))))))) | exact .app .in1 | exact .app .in2 | exact .app (.next .in1) | exact .next (.app .in1) | exact .next (.next (.app .in1)) | exact .next (.app .here) | exact .next (.next (.app .here)) | exact .next (.next (.next (.app .here))) | exact .next (.next (.next (.next (.app .here))))) rfl Try.underlying108 rfl rfl (by rfl)) (#[true, true, true, false, false, false, false, false, false, false]) (by kernel_rfl) ?_
  refine GA.pure (i := 3) (fun _ _ _ _ _ h => h) rfl (by kernel_rfl) trivial rfl rfl (Y.moveP rfl rfl) (#[true, true, true, true, false, false, false, false, false, false]) (by kernel_rfl) ?_
  first | refine GA.pure (i := 4) (fun _ _ _ _ _ h => h) rfl (by kernel_rfl) trivial rfl rfl (Y.nilCheckP rfl rfl) (#[true, true, true, true, true, false, false, false, false, false]) (by kernel_rfl) ?_ | refine GA.pure (i := 4) (fun _ _ _ _ _ h => h) rfl (by kernel_rfl) trivial rfl rfl (Y.nilCheckF rfl rfl) (#[true, true, true, true, true, false, false, false, false, false]) (by kernel_rfl) ?_
  refine GA.read (i := 5) (fun _ _ _ _ _ h => h) rfl (by kernel_rfl) (by kernel_rfl) trivial rfl rfl (Y.loadAt (by first | exact .here | exact .next .here | exact .next (.next .here) | exact .next (.next (.next .here)) | exact .next (.next (.next (.next .here))) | exact .next (.next (.next (.next (.next .here)))) | exact .next (.next (.next (.next (.next (.next .here))))) | exact .next (.next (.next (.next (.next (.next (.next .here)))))) | exact .in1 | exact .next .in1 | exact .next (.next .in1) | exact .next (.next (.next .in1)) | exact .next (.next (.next (.next .in1))) | exact .in2 | exact .next .in2 | exact .next (.next .in2) | exact .next (.next (.next .in2)) | exact .next (.next (.next (.next .in2))) | exact .app .here | exact .app (.next .here) | exact .app (.next (.next .here)) | exact .app (.next (.next (.next .here))) | exact .app (.next (.next (.next (.next .here)))) | exact .app (.next (.next (.next (.next (.next .here))))) | exact .app (.next (.next (.next (.next (.next (.next .here)))))) | exact .app (.next (.next (.next (.next (.next (.next (.next .here))))))) | exact .app .in1 | exact .app .in2 | exact .app (.next .in1) | exact .next (.app .in1) | exact .next (.next (.app .in1)) | exact .next (.app .here) | exact .next (.next (.app .here)) | exact .next (.next (.next (.app .here))) | exact .next (.next (.next (.next (.app .here))))) rfl Try.underlying108 rfl rfl (by rfl)) (#[true, true, true, true, true, true, false, false, false, false]) (by kernel_rfl) ?_
  refine GA.pure (i := 6) (fun _ _ _ _ _ h => h) rfl (by kernel_rfl) trivial rfl rfl (Y.shl rfl rfl rfl (by omega)) (#[true, true, true, true, true, true, true, false, false, false]) (by kernel_rfl) ?_
  refine GA.pure (i := 7) (fun _ _ _ _ _ h => h) rfl (by kernel_rfl) trivial rfl rfl (Y.bin rfl rfl rfl rfl) (#[true, true, true, true, true, true, true, true, false, false]) (by kernel_rfl) ?_
  refine GA.some (d := 10) (p := U64) (U64.wrap _) ?_
  rintro _ ⟨r1, rfl, h1⟩
  first | refine GA.pure (i := 8) (fun _ _ _ _ _ h => h) rfl (by kernel_rfl) trivial rfl rfl (Y.nilCheckP rfl rfl) (#[true, true, true, true, true, true, true, true, true, false]) (by kernel_rfl) ?_ | refine GA.pure (i := 8) (fun _ _ _ _ _ h => h) rfl (by kernel_rfl) trivial rfl rfl (Y.nilCheckF rfl rfl) (#[true, true, true, true, true, true, true, true, true, false]) (by kernel_rfl) ?_
  refine GA.one (i := 9) rfl (by kernel_rfl) (#[true, true, true, true, true, true, true, true, true, true]) (by kernel_rfl) ?_
  refine G.store (v := .int _ _) (by first | exact .here | exact .next .here | exact .next (.next .here) | exact .next (.next (.next .here)) | exact .next (.next (.next (.next .here))) | exact .next (.next (.next (.next (.next .here)))) | exact .next (.next (.next (.next (.next (.next .here))))) | exact .next (.next (.next (.next (.next (.next (.next .here)))))) | exact .in1 | exact .next .in1 | exact .next (.next .in1) | exact .next (.next (.next .in1)) | exact .next (.next (.next (.next .in1))) | exact .in2 | exact .next .in2 | exact .next (.next .in2) | exact .next (.next (.next .in2)) | exact .next (.next (.next (.next .in2))) | exact .app .here | exact .app (.next .here) | exact .app (.next (.next .here)) | exact .app (.next (.next (.next .here))) | exact .app (.next (.next (.next (.next .here)))) | exact .app (.next (.next (.next (.next (.next .here))))) | exact .app (.next (.next (.next (.next (.next (.next .here)))))) | exact .app (.next (.next (.next (.next (.next (.next (.next .here))))))) | exact .app .in1 | exact .app .in2 | exact .app (.next .in1) | exact .next (.app .in1) | exact .next (.next (.app .in1)) | exact .next (.app .here) | exact .next (.next (.app .here)) | exact .next (.next (.next (.app .here))) | exact .next (.next (.next (.next (.app .here))))) rfl trivial rfl I108 rfl rfl rfl (by first | decide | (simp; done) | (simp; omega)) _ (by first | (simp only [List.set_cons_succ, List.set_cons_zero]; done) | (simp only [List.set_cons_succ, List.set_cons_zero]; exact rfl) | exact rfl) ?_
  refine G.nil ?_
  refine ⟨fun _ h => absurd h (by simp [hit]), ?_⟩
  refine GA.done (by kernel_rfl) ?_
  refine C.seq ?_
  refine C.drawn mixed (_) [9] (fun _ h => h) ?_
  refine GA.pure (i := 0) (fun _ _ _ _ _ h => h) rfl (by kernel_rfl) trivial rfl rfl (Y.moveP rfl rfl) (#[true, false, false, false, false, false, false, false, false, false]) (by kernel_rfl) ?_
  first | refine GA.pure (i := 1) (fun _ _ _ _ _ h => h) rfl (by kernel_rfl) trivial rfl rfl (Y.nilCheckP rfl rfl) (#[true, true, false, false, false, false, false, false, false, false]) (by kernel_rfl) ?_ | refine GA.pure (i := 1) (fun _ _ _ _ _ h => h) rfl (by kernel_rfl) trivial rfl rfl (Y.nilCheckF rfl rfl) (#[true, true, false, false, false, false, false, false, false, false]) (by kernel_rfl) ?_
  refine GA.read (i := 2) (fun _ _ _ _ _ h => h) rfl (by kernel_rfl) (by kernel_rfl) trivial rfl rfl (Y.loadAt (by first | exact .here | exact .next .here | exact .next (.next .here) | exact .next (.next (.next .here)) | exact .next (.next (.next (.next .here))) | exact .next (.next (.next (.next (.next .here)))) | exact .next (.next (.next (.next (.next (.next .here))))) | exact .next (.next (.next (.next (.next (.next (.next .here)))))) | exact .in1 | exact .next .in1 | exact .next (.next .in1) | exact .next (.next (.next .in1)) | exact .next (.next (.next (.next .in1))) | exact .in2 | exact .next .in2 | exact .next (.next .in2) | exact .next (.next (.next .in2)) | exact .next (.next (.next (.next .in2))) | exact .app .here | exact .app (.next .here) | exact .app (.next (.next .here)) | exact .app (.next (.next (.next .here))) | exact .app (.next (.next (.next (.next .here)))) | exact .app (.next (.next (.next (.next (.next .here))))) | exact .app (.next (.next (.next (.next (.next (.next .here)))))) | exact .app (.next (.next (.next (.next (.next (.next (.next .here))))))) | exact .app .in1 | exact .app .in2 | exact .app (.next .in1) | exact .next (.app .in1) | exact .next (.next (.app .in1)) | exact .next (.app .here) | exact .next (.next (.app .here)) | exact .next (.next (.next (.app .here))) | exact .next (.next (.next (.next (.app .here))))) rfl Try.underlying108 rfl rfl (by rfl)) (#[true, true, true, false, false, false, false, false, false, false]) (by kernel_rfl) ?_
  refine GA.pure (i := 3) (fun _ _ _ _ _ h => h) rfl (by kernel_rfl) trivial rfl rfl (Y.moveP rfl rfl) (#[true, true, true, true, false, false, false, false, false, false]) (by kernel_rfl) ?_
  first | refine GA.pure (i := 4) (fun _ _ _ _ _ h => h) rfl (by kernel_rfl) trivial rfl rfl (Y.nilCheckP rfl rfl) (#[true, true, true, true, true, false, false, false, false, false]) (by kernel_rfl) ?_ | refine GA.pure (i := 4) (fun _ _ _ _ _ h => h) rfl (by kernel_rfl) trivial rfl rfl (Y.nilCheckF rfl rfl) (#[true, true, true, true, true, false, false, false, false, false]) (by kernel_rfl) ?_
  refine GA.read (i := 5) (fun _ _ _ _ _ h => h) rfl (by kernel_rfl) (by kernel_rfl) trivial rfl rfl (Y.loadAt (by first | exact .here | exact .next .here | exact .next (.next .here) | exact .next (.next (.next .here)) | exact .next (.next (.next (.next .here))) | exact .next (.next (.next (.next (.next .here)))) | exact .next (.next (.next (.next (.next (.next .here))))) | exact .next (.next (.next (.next (.next (.next (.next .here)))))) | exact .in1 | exact .next .in1 | exact .next (.next .in1) | exact .next (.next (.next .in1)) | exact .next (.next (.next (.next .in1))) | exact .in2 | exact .next .in2 | exact .next (.next .in2) | exact .next (.next (.next .in2)) | exact .next (.next (.next (.next .in2))) | exact .app .here | exact .app (.next .here) | exact .app (.next (.next .here)) | exact .app (.next (.next (.next .here))) | exact .app (.next (.next (.next (.next .here)))) | exact .app (.next (.next (.next (.next (.next .here))))) | exact .app (.next (.next (.next (.next (.next (.next .here)))))) | exact .app (.next (.next (.next (.next (.next (.next (.next .here))))))) | exact .app .in1 | exact .app .in2 | exact .app (.next .in1) | exact .next (.app .in1) | exact .next (.next (.app .in1)) | exact .next (.app .here) | exact .next (.next (.app .here)) | exact .next (.next (.next (.app .here))) | exact .next (.next (.next (.next (.app .here))))) rfl Try.underlying108 rfl rfl (by rfl)) (#[true, true, true, true, true, true, false, false, false, false]) (by kernel_rfl) ?_
  refine GA.pure (i := 6) (fun _ _ _ _ _ h => h) rfl (by kernel_rfl) trivial rfl rfl (Y.shr rfl rfl rfl (by omega)) (#[true, true, true, true, true, true, true, false, false, false]) (by kernel_rfl) ?_
  refine GA.pure (i := 7) (fun _ _ _ _ _ h => h) rfl (by kernel_rfl) trivial rfl rfl (Y.bin rfl rfl rfl rfl) (#[true, true, true, true, true, true, true, true, false, false]) (by kernel_rfl) ?_
  refine GA.some (d := 19) (p := U64) (U64.wrap _) ?_
  rintro _ ⟨r2, rfl, h2⟩
  first | refine GA.pure (i := 8) (fun _ _ _ _ _ h => h) rfl (by kernel_rfl) trivial rfl rfl (Y.nilCheckP rfl rfl) (#[true, true, true, true, true, true, true, true, true, false]) (by kernel_rfl) ?_ | refine GA.pure (i := 8) (fun _ _ _ _ _ h => h) rfl (by kernel_rfl) trivial rfl rfl (Y.nilCheckF rfl rfl) (#[true, true, true, true, true, true, true, true, true, false]) (by kernel_rfl) ?_
  refine GA.one (i := 9) rfl (by kernel_rfl) (#[true, true, true, true, true, true, true, true, true, true]) (by kernel_rfl) ?_
  refine G.store (v := .int _ _) (by first | exact .here | exact .next .here | exact .next (.next .here) | exact .next (.next (.next .here)) | exact .next (.next (.next (.next .here))) | exact .next (.next (.next (.next (.next .here)))) | exact .next (.next (.next (.next (.next (.next .here))))) | exact .next (.next (.next (.next (.next (.next (.next .here)))))) | exact .in1 | exact .next .in1 | exact .next (.next .in1) | exact .next (.next (.next .in1)) | exact .next (.next (.next (.next .in1))) | exact .in2 | exact .next .in2 | exact .next (.next .in2) | exact .next (.next (.next .in2)) | exact .next (.next (.next (.next .in2))) | exact .app .here | exact .app (.next .here) | exact .app (.next (.next .here)) | exact .app (.next (.next (.next .here))) | exact .app (.next (.next (.next (.next .here)))) | exact .app (.next (.next (.next (.next (.next .here))))) | exact .app (.next (.next (.next (.next (.next (.next .here)))))) | exact .app (.next (.next (.next (.next (.next (.next (.next .here))))))) | exact .app .in1 | exact .app .in2 | exact .app (.next .in1) | exact .next (.app .in1) | exact .next (.next (.app .in1)) | exact .next (.app .here) | exact .next (.next (.app .here)) | exact .next (.next (.next (.app .here))) | exact .next (.next (.next (.next (.app .here))))) rfl trivial rfl I108 rfl rfl rfl (by first | decide | (simp; done) | (simp; omega)) _ (by first | (simp only [List.set_cons_succ, List.set_cons_zero]; done) | (simp only [List.set_cons_succ, List.set_cons_zero]; exact rfl) | exact rfl) ?_
  refine G.nil ?_
  refine ⟨fun _ h => absurd h (by simp [hit]), ?_⟩
  refine GA.done (by kernel_rfl) ?_
  refine C.seq ?_
  refine C.drawn mixed (_) [9] (fun _ h => h) ?_
  refine GA.pure (i := 0) (fun _ _ _ _ _ h => h) rfl (by kernel_rfl) trivial rfl rfl (Y.moveP rfl rfl) (#[true, false, false, false, false, false, false, false, false, false]) (by kernel_rfl) ?_
  first | refine GA.pure (i := 1) (fun _ _ _ _ _ h => h) rfl (by kernel_rfl) trivial rfl rfl (Y.nilCheckP rfl rfl) (#[true, true, false, false, false, false, false, false, false, false]) (by kernel_rfl) ?_ | refine GA.pure (i := 1) (fun _ _ _ _ _ h => h) rfl (by kernel_rfl) trivial rfl rfl (Y.nilCheckF rfl rfl) (#[true, true, false, false, false, false, false, false, false, false]) (by kernel_rfl) ?_
  refine GA.read (i := 2) (fun _ _ _ _ _ h => h) rfl (by kernel_rfl) (by kernel_rfl) trivial rfl rfl (Y.loadAt (by first | exact .here | exact .next .here | exact .next (.next .here) | exact .next (.next (.next .here)) | exact .next (.next (.next (.next .here))) | exact .next (.next (.next (.next (.next .here)))) | exact .next (.next (.next (.next (.next (.next .here))))) | exact .next (.next (.next (.next (.next (.next (.next .here)))))) | exact .in1 | exact .next .in1 | exact .next (.next .in1) | exact .next (.next (.next .in1)) | exact .next (.next (.next (.next .in1))) | exact .in2 | exact .next .in2 | exact .next (.next .in2) | exact .next (.next (.next .in2)) | exact .next (.next (.next (.next .in2))) | exact .app .here | exact .app (.next .here) | exact .app (.next (.next .here)) | exact .app (.next (.next (.next .here))) | exact .app (.next (.next (.next (.next .here)))) | exact .app (.next (.next (.next (.next (.next .here))))) | exact .app (.next (.next (.next (.next (.next (.next .here)))))) | exact .app (.next (.next (.next (.next (.next (.next (.next .here))))))) | exact .app .in1 | exact .app .in2 | exact .app (.next .in1) | exact .next (.app .in1) | exact .next (.next (.app .in1)) | exact .next (.app .here) | exact .next (.next (.app .here)) | exact .next (.next (.next (.app .here))) | exact .next (.next (.next (.next (.app .here))))) rfl Try.underlying108 rfl rfl (by rfl)) (#[true, true, true, false, false, false, false, false, false, false]) (by kernel_rfl) ?_
  refine GA.pure (i := 3) (fun _ _ _ _ _ h => h) rfl (by kernel_rfl) trivial rfl rfl (Y.moveP rfl rfl) (#[true, true, true, true, false, false, false, false, false, false]) (by kernel_rfl) ?_
  first | refine GA.pure (i := 4) (fun _ _ _ _ _ h => h) rfl (by kernel_rfl) trivial rfl rfl (Y.nilCheckP rfl rfl) (#[true, true, true, true, true, false, false, false, false, false]) (by kernel_rfl) ?_ | refine GA.pure (i := 4) (fun _ _ _ _ _ h => h) rfl (by kernel_rfl) trivial rfl rfl (Y.nilCheckF rfl rfl) (#[true, true, true, true, true, false, false, false, false, false]) (by kernel_rfl) ?_
  refine GA.read (i := 5) (fun _ _ _ _ _ h => h) rfl (by kernel_rfl) (by kernel_rfl) trivial rfl rfl (Y.loadAt (by first | exact .here | exact .next .here | exact .next (.next .here) | exact .next (.next (.next .here)) | exact .next (.next (.next (.next .here))) | exact .next (.next (.next (.next (.next .here)))) | exact .next (.next (.next (.next (.next (.next .here))))) | exact .next (.next (.next (.next (.next (.next (.next .here)))))) | exact .in1 | exact .next .in1 | exact .next (.next .in1) | exact .next (.next (.next .in1)) | exact .next (.next (.next (.next .in1))) | exact .in2 | exact .next .in2 | exact .next (.next .in2) | exact .next (.next (.next .in2)) | exact .next (.next (.next (.next .in2))) | exact .app .here | exact .app (.next .here) | exact .app (.next (.next .here)) | exact .app (.next (.next (.next .here))) | exact .app (.next (.next (.next (.next .here)))) | exact .app (.next (.next (.next (.next (.next .here))))) | exact .app (.next (.next (.next (.next (.next (.next .here)))))) | exact .app (.next (.next (.next (.next (.next (.next (.next .here))))))) | exact .app .in1 | exact .app .in2 | exact .app (.next .in1) | exact .next (.app .in1) | exact .next (.next (.app .in1)) | exact .next (.app .here) | exact .next (.next (.app .here)) | exact .next (.next (.next (.app .here))) | exact .next (.next (.next (.next (.app .here))))) rfl Try.underlying108 rfl rfl (by rfl)) (#[true, true, true, true, true, true, false, false, false, false]) (by kernel_rfl) ?_
  refine GA.pure (i := 6) (fun _ _ _ _ _ h => h) rfl (by kernel_rfl) trivial rfl rfl (Y.shl rfl rfl rfl (by omega)) (#[true, true, true, true, true, true, true, false, false, false]) (by kernel_rfl) ?_
  refine GA.pure (i := 7) (fun _ _ _ _ _ h => h) rfl (by kernel_rfl) trivial rfl rfl (Y.bin rfl rfl rfl rfl) (#[true, true, true, true, true, true, true, true, false, false]) (by kernel_rfl) ?_
  refine GA.some (d := 28) (p := U64) (U64.wrap _) ?_
  rintro _ ⟨r3, rfl, h3⟩
  first | refine GA.pure (i := 8) (fun _ _ _ _ _ h => h) rfl (by kernel_rfl) trivial rfl rfl (Y.nilCheckP rfl rfl) (#[true, true, true, true, true, true, true, true, true, false]) (by kernel_rfl) ?_ | refine GA.pure (i := 8) (fun _ _ _ _ _ h => h) rfl (by kernel_rfl) trivial rfl rfl (Y.nilCheckF rfl rfl) (#[true, true, true, true, true, true, true, true, true, false]) (by kernel_rfl) ?_
  refine GA.one (i := 9) rfl (by kernel_rfl) (#[true, true, true, true, true, true, true, true, true, true]) (by kernel_rfl) ?_
  refine G.store (v := .int _ _) (by first | exact .here | exact .next .here | exact .next (.next .here) | exact .next (.next (.next .here)) | exact .next (.next (.next (.next .here))) | exact .next (.next (.next (.next (.next .here)))) | exact .next (.next (.next (.next (.next (.next .here))))) | exact .next (.next (.next (.next (.next (.next (.next .here)))))) | exact .in1 | exact .next .in1 | exact .next (.next .in1) | exact .next (.next (.next .in1)) | exact .next (.next (.next (.next .in1))) | exact .in2 | exact .next .in2 | exact .next (.next .in2) | exact .next (.next (.next .in2)) | exact .next (.next (.next (.next .in2))) | exact .app .here | exact .app (.next .here) | exact .app (.next (.next .here)) | exact .app (.next (.next (.next .here))) | exact .app (.next (.next (.next (.next .here)))) | exact .app (.next (.next (.next (.next (.next .here))))) | exact .app (.next (.next (.next (.next (.next (.next .here)))))) | exact .app (.next (.next (.next (.next (.next (.next (.next .here))))))) | exact .app .in1 | exact .app .in2 | exact .app (.next .in1) | exact .next (.app .in1) | exact .next (.next (.app .in1)) | exact .next (.app .here) | exact .next (.next (.app .here)) | exact .next (.next (.next (.app .here))) | exact .next (.next (.next (.next (.app .here))))) rfl trivial rfl I108 rfl rfl rfl (by first | decide | (simp; done) | (simp; omega)) _ (by first | (simp only [List.set_cons_succ, List.set_cons_zero]; done) | (simp only [List.set_cons_succ, List.set_cons_zero]; exact rfl) | exact rfl) ?_
  refine G.nil ?_
  refine ⟨fun _ h => absurd h (by simp [hit]), ?_⟩
  refine GA.done (by kernel_rfl) ?_
  refine C.seq ?_
  refine C.region ?_
  refine G.moveP rfl trivial rfl rfl rfl ?_
  first | refine G.nilCheckP rfl trivial rfl rfl rfl ?_ | refine G.nilCheckF rfl trivial rfl rfl rfl ?_
  refine G.loadAt (by first | exact .here | exact .next .here | exact .next (.next .here) | exact .next (.next (.next .here)) | exact .next (.next (.next (.next .here))) | exact .next (.next (.next (.next (.next .here)))) | exact .next (.next (.next (.next (.next (.next .here))))) | exact .next (.next (.next (.next (.next (.next (.next .here)))))) | exact .in1 | exact .next .in1 | exact .next (.next .in1) | exact .next (.next (.next .in1)) | exact .next (.next (.next (.next .in1))) | exact .in2 | exact .next .in2 | exact .next (.next .in2) | exact .next (.next (.next .in2)) | exact .next (.next (.next (.next .in2))) | exact .app .here | exact .app (.next .here) | exact .app (.next (.next .here)) | exact .app (.next (.next (.next .here))) | exact .app (.next (.next (.next (.next .here)))) | exact .app (.next (.next (.next (.next (.next .here))))) | exact .app (.next (.next (.next (.next (.next (.next .here)))))) | exact .app (.next (.next (.next (.next (.next (.next (.next .here))))))) | exact .app .in1 | exact .app .in2 | exact .app (.next .in1) | exact .next (.app .in1) | exact .next (.next (.app .in1)) | exact .next (.app .here) | exact .next (.next (.app .here)) | exact .next (.next (.next (.app .here))) | exact .next (.next (.next (.next (.app .here))))) rfl trivial rfl rfl Try.underlying108 rfl rfl (by rfl) ?_
  refine G.assignI rfl trivial rfl rfl rfl ?_
  refine G.nil ?_
  refine C.ret ?_
  -- end 
  exact ⟨rfl, _, Res.of (rs := [.tmp 2]) rfl rfl, r3, h3, rfl, rfl⟩
end sort
end Go.Proofs.Ytomiidlbfcfpiaa
