/-
  Pages taken, given back, counted: walked.
-/
import Derived.Test.YtoegcjgdaikfiaaAl2
namespace Go.Proofs.Ytoegcjgdaikfiaa
open Go Go.SL Go.RowKit

def countU (pb : List UInt8) (n : Nat) : Nat := (List.range n).countP (fun (k : Nat) => hasB pb (k : Int))
theorem countU_succ (pb : List UInt8) (n : Nat) : countU pb (n + 1) = countU pb n + if hasB pb (n : Int) = true then 1 else 0 := by
  unfold countU
  rw [List.range_succ, List.countP_append, List.countP_singleton]
theorem countU_le (pb : List UInt8) (n : Nat) : countU pb n ≤ n := by
  have := List.countP_le_length (p := fun k => hasB pb ((k : Nat) : Int)) (l := List.range n)
  rwa [List.length_range] at this
section alloc
variable (W0 : World) (S L0 : List Seg) (bs : Nat)
theorem count_spec (L : List Seg) (t : TypeId) (x : Value) (pb : List UInt8) (hp : pb.length = 256) (hread : ReadsP W0 (.iface t x) L pb) :
    FnS Try.prog W0 16 #[.iface t x] L (fun e L' => L' = L ∧ e = .returned (.tuple #[.int .i64 (countU pb 32 : Nat), .int .i64 0])) := by
  refine FnS.of (args := [.iface t x]) Try.func16 rfl rfl ?_
  refine C.seq ?_
  refine C.region ?_
  refine G.assignI rfl trivial rfl rfl rfl ?_
  refine G.assignI rfl trivial rfl rfl rfl ?_
  refine G.nil ?_
  refine C.seq ?_
  refine C.region ?_
  first | refine G.moveW rfl trivial rfl rfl rfl ?_ | refine G.move .nilIface rfl trivial rfl rfl rfl ?_
  refine G.call E19 rfl rfl trivial rfl rfl hread rfl ?_
  rintro e L2 ⟨v9, s9, hv9, rfl, rfl⟩
  obtain ⟨a9, c9, rfl, hr9⟩ := hv9.form
  refine G.moveU rfl trivial rfl rfl rfl ?_
  refine G.extractL rfl trivial rfl rfl rfl rfl ?_
  refine G.extractL rfl trivial rfl rfl rfl rfl ?_
  refine G.assignS rfl trivial rfl rfl rfl ?_
  refine G.assignI rfl trivial rfl rfl rfl ?_
  refine G.nil ?_
  refine C.seq ?_
  refine C.seq ?_
  refine C.region ?_
  refine G.moveI rfl trivial rfl rfl rfl ?_
  refine G.bin rfl trivial rfl rfl rfl rfl rfl ?_
  refine G.nil ?_
  refine C.no rfl (by simp) ?_
  refine C.skip ?_
  refine C.seq ?_
  refine C.region ?_
  refine G.assignI rfl trivial rfl rfl rfl ?_
  refine G.nil ?_
  refine C.seq ?_
  refine C.seq ?_
  refine C.region ?_
  refine G.moveI rfl trivial rfl rfl rfl ?_
  refine G.nil ?_
  refine C.block ?_
  refine C.loop (fun m F D' L' => ∃ i : Nat, i ≤ 32 ∧ m = 32 - i ∧ F 16 = .int .i64 i ∧ F 6 = .int .i64 (countU pb i : Nat) ∧ F 4 = .slice a9 256 c9 ∧ D' = [] ∧ s9 :: L = L') ⟨_, ⟨0, by omega, rfl, rfl, rfl, rfl, rfl, rfl⟩⟩ ?_
  rintro m F D' L' ⟨i, hi, rfl, h16, h6, h4, rfl, rfl⟩
  refine C.fix (d := 16) h16 ?_
  refine C.fix (d := 6) h6 ?_
  refine C.fix (d := 4) h4 ?_
  refine C.seq ?_
  refine C.region ?_
  refine G.bin rfl trivial rfl rfl rfl rfl rfl ?_
  refine G.nil ?_
  refine C.seq ?_
  refine C.cond _ rfl ?_ ?_
  · intro hc1
    have hlt : i < 32 := by omega
    have hcs := countU_succ pb i
    have hcl := countU_le pb i
    refine C.skip ?_
    refine C.seq ?_
    refine C.block ?_
    refine C.seq ?_
    refine C.region ?_
    refine G.moveI rfl trivial rfl rfl rfl ?_
    refine G.assignI rfl trivial rfl rfl rfl ?_
    refine G.nil ?_
    refine C.seq ?_
    refine C.region ?_
    refine G.moveS rfl trivial rfl rfl rfl ?_
    refine G.moveI rfl trivial rfl rfl rfl ?_
    refine G.call E20 rfl rfl trivial rfl rfl (has_spec W0 _ a9 256 c9 pb rfl hp (hr9 _ _) (i : Int)) rfl ?_
    rintro e L2 ⟨rfl, rfl⟩
    refine G.nil ?_
    refine C.condB _ rfl ?_ ?_
    · intro hc2
      refine C.region ?_
      refine G.moveI rfl trivial rfl rfl rfl ?_
      refine G.add rfl trivial rfl rfl rfl rfl (by omega) ?_
      refine G.assignI rfl trivial rfl rfl rfl ?_
      refine G.nil ?_
      refine C.region ?_
      refine G.add rfl trivial rfl rfl rfl rfl (by omega) ?_
      refine G.moveI rfl trivial rfl rfl rfl ?_
      refine G.nil ?_
      exact ⟨32 - (i + 1), by omega, i + 1, by omega, rfl, rfl, by rw [hcs, if_pos hc2]; rfl, rfl, rfl, rfl⟩
    · intro hc2
      refine C.skip ?_
      refine C.region ?_
      refine G.add rfl trivial rfl rfl rfl rfl (by omega) ?_
      refine G.moveI rfl trivial rfl rfl rfl ?_
      refine G.nil ?_
      exact ⟨32 - (i + 1), by omega, i + 1, by omega, rfl, rfl, by rw [hcs, if_neg (by rw [hc2]; simp)]; rfl, rfl, rfl, rfl⟩
  · intro hc1
    obtain rfl : i = 32 := by omega
    refine C.exit ?_
    refine C.seq ?_
    refine C.region ?_
    refine G.moveI rfl trivial rfl rfl rfl ?_
    refine G.assignI rfl trivial rfl rfl rfl ?_
    refine G.assignI rfl trivial rfl rfl rfl ?_
    refine G.nil ?_
    refine C.less (fun _ h => h.tail) ?_
    refine C.ret ?_
    -- end c1F
    exact ⟨rfl, _, Res.of (rs := [.tmp 2, .tmp 3]) rfl rfl, rfl, rfl⟩
theorem take_some {q : Bk} (pg : Nat → List UInt8) (sg : Seg) (hsg : Sh q bs pg sg) (hp : (pg 1).length = 256) (k : Nat) (hk : 2 ≤ k ∧ k < 32) (hfree : usedP (pg 1) k = false) (hall : ∀ j, 2 ≤ j → j < k → usedP (pg 1) j = true) :
    FnS Try.prog W0 10 #[ptr bs] (S ++ (sg :: L0)) (fun e L' => ∃ sg', Sh q bs (updP (updP pg 1 (setU (pg 1) k)) k zero256) sg' ∧ L' = S ++ (sg' :: L0) ∧ e = .returned (.tuple #[.int .i64 (k : Int), .int .i64 0])) := by
  refine FnS.of (args := [ptr bs]) Try.func10 rfl rfl ?_
  refine C.seq ?_
  refine C.region ?_
  refine G.assignI rfl trivial rfl rfl rfl ?_
  refine G.assignI rfl trivial rfl rfl rfl ?_
  refine G.nil ?_
  refine C.seq ?_
  refine C.region ?_
  refine G.moveP rfl trivial rfl rfl rfl ?_
  refine G.makeInterface rfl trivial rfl rfl Try.underlying29 rfl ?_
  refine G.call E19 rfl rfl trivial rfl rfl (aread_sheet W0 S L0 bs pg sg hsg) rfl ?_
  rintro e L2 ⟨v9, s9, hv9, rfl, rfl⟩
  obtain ⟨b9, c9, k9, rfl, rfl, hk9, hc9⟩ := hv9.block (by decide)
  refine G.moveU rfl trivial rfl rfl rfl ?_
  refine G.extractL rfl trivial rfl rfl rfl rfl ?_
  refine G.extractL rfl trivial rfl rfl rfl rfl ?_
  refine G.assignS rfl trivial rfl rfl rfl ?_
  refine G.assignI rfl trivial rfl rfl rfl ?_
  refine G.nil ?_
  refine C.seq ?_
  refine C.seq ?_
  refine C.region ?_
  refine G.moveI rfl trivial rfl rfl rfl ?_
  refine G.bin rfl trivial rfl rfl rfl rfl rfl ?_
  refine G.nil ?_
  refine C.no rfl (by simp) ?_
  refine C.skip ?_
  refine C.seq ?_
  refine C.seq ?_
  refine C.region ?_
  refine G.assignI rfl trivial rfl rfl rfl ?_
  refine G.nil ?_
  refine C.block ?_
  refine C.loop (fun m F D' L' => ∃ i : Nat, 2 ≤ i ∧ i ≤ k ∧ m = k - i ∧ F 6 = .int .i64 i ∧ F 4 = .slice (some ⟨b9, 0, none⟩) 256 c9 ∧ F 0 = ptr bs ∧ D' = [] ∧ [(b9, .row (bytesV (pg 1)) 5 k9)] :: (S ++ (sg :: L0)) = L') ⟨_, ⟨2, by omega, hk.1, rfl, rfl, rfl, rfl, rfl, rfl⟩⟩ ?_
  rintro m F D' L' ⟨i, hi2, hi, rfl, h6, h4, h0', rfl, rfl⟩
  refine C.fix (d := 6) h6 ?_
  refine C.fix (d := 4) h4 ?_
  refine C.fix (d := 0) h0' ?_
  refine C.seq ?_
  refine C.seq ?_
  refine C.region ?_
  refine G.moveI rfl trivial rfl rfl rfl ?_
  refine G.bin rfl trivial rfl rfl rfl rfl rfl ?_
  refine G.nil ?_
  refine C.cond _ rfl ?_ ?_
  · intro hc1
    refine C.skip ?_
    refine C.seq ?_
    refine C.block ?_
    refine C.seq ?_
    refine C.seq ?_
    refine C.region ?_
    refine G.moveS rfl trivial rfl rfl rfl ?_
    refine G.moveI rfl trivial rfl rfl rfl ?_
    refine G.call E20 rfl rfl trivial rfl rfl (has_spec W0 _ _ 256 c9 (pg 1) rfl hp (Rd.row0 .here) (i : Int)) rfl ?_
    rintro e L2 ⟨rfl, rfl⟩
    refine G.nil ?_
    refine C.condB _ rfl ?_ ?_
    · intro hc2
      have hlt : i < k := by
        rcases Nat.lt_or_ge i k with h | h
        · exact h
        · obtain rfl : i = k := by omega
          unfold hasB at hc2
          rw [Int.toNat_natCast, hfree, Bool.and_false] at hc2
          cases hc2
      refine C.exit ?_
      refine C.region ?_
      refine G.moveI rfl trivial rfl rfl rfl ?_
      refine G.add rfl trivial rfl rfl rfl rfl (by omega) ?_
      refine G.assignI rfl trivial rfl rfl rfl ?_
      refine G.nil ?_
      exact ⟨k - (i + 1), by omega, i + 1, by omega, by omega, rfl, rfl, rfl, rfl, rfl, rfl⟩
    · intro hc2
      obtain rfl : i = k := by
        rcases Nat.lt_or_ge i k with h | h
        · exfalso
          unfold hasB at hc2
          rw [Int.toNat_natCast, hall i hi2 h, Bool.and_true] at hc2
          exact absurd (of_decide_eq_false hc2) (by omega)
        · omega
      refine C.skip ?_
      refine C.seq ?_
      refine C.drawn mixed (_) [10] (fun _ h => h) ?_
      refine GA.pure (i := 0) (fun _ _ _ _ _ h => h) rfl (by kernel_rfl) trivial rfl rfl (Y.moveS rfl rfl) (#[true, false, false, false, false, false, false, false, false, false, false]) (by kernel_rfl) ?_
      refine GA.pure (i := 1) (fun _ _ _ _ _ h => h) rfl (by kernel_rfl) trivial rfl rfl (Y.moveI rfl rfl) (#[true, true, false, false, false, false, false, false, false, false, false]) (by kernel_rfl) ?_
      refine GA.pure (i := 2) (fun _ _ _ _ _ h => h) rfl (by kernel_rfl) trivial rfl rfl (Y.quo rfl rfl rfl (by decide)) (#[true, true, true, false, false, false, false, false, false, false, false]) (by kernel_rfl) ?_
      refine GA.fix (d := 26) (v := .int .i64 ((i / 8 : Nat) : Int)) (by show Value.int .i64 (IntKind.i64.wrap ((i : Int).tdiv 8)) = _; rw [Int.tdiv_eq_ediv_of_nonneg (by omega), wrap_i64 (by omega)]; congr 1) ?_
      refine GA.pure (i := 3) (fun _ _ _ _ _ h => h) rfl (by kernel_rfl) trivial rfl rfl (Y.indexAddr rfl Try.underlying25 I5 rfl rfl (by omega)) (#[true, true, true, true, false, false, false, false, false, false, false]) (by kernel_rfl) ?_
      refine GA.fix (d := 27) (v := .pointer (some ⟨b9, i / 8, none⟩)) (by show Value.pointer (some ⟨b9, 0 + ((i / 8 : Nat) : Int).toNat * 1, none⟩) = _; rw [Int.toNat_natCast, Nat.mul_one, Nat.zero_add]) ?_
      refine GA.read (i := 4) (fun _ _ _ _ _ h => h) rfl (by kernel_rfl) (by kernel_rfl) trivial rfl rfl (Y.loadAt (v := .int .u8 (((pg 1)[i / 8]?.getD 0).toNat : Int)) .here rfl Try.underlying5 rfl rfl (byte_at hp (by omega))) (#[true, true, true, true, true, false, false, false, false, false, false]) (by kernel_rfl) ?_
      refine GA.pure (i := 5) (fun _ _ _ _ _ h => h) rfl (by kernel_rfl) trivial rfl rfl (Y.moveI rfl rfl) (#[true, true, true, true, true, true, false, false, false, false, false]) (by kernel_rfl) ?_
      refine GA.pure (i := 6) (fun _ _ _ _ _ h => h) rfl (by kernel_rfl) trivial rfl rfl (Y.rem rfl rfl rfl (by decide)) (#[true, true, true, true, true, true, true, false, false, false, false]) (by kernel_rfl) ?_
      refine GA.fix (d := 30) (v := .int .i64 ((i % 8 : Nat) : Int)) (by show Value.int .i64 ((i : Int).tmod 8) = _; rw [Int.tmod_eq_emod_of_nonneg (by omega)]; congr 1) ?_
      refine GA.pure (i := 7) (fun _ _ _ _ _ h => h) rfl (by kernel_rfl) trivial rfl rfl (Y.shl rfl rfl rfl (by omega)) (#[true, true, true, true, true, true, true, true, false, false, false]) (by kernel_rfl) ?_
      refine GA.fix (d := 31) (v := .int .u8 ((2 ^ (i % 8) : Nat) : Int)) (shl_bit (Nat.mod_lt _ (by decide))) ?_
      refine GA.pure (i := 8) (fun _ _ _ _ _ h => h) rfl (by kernel_rfl) trivial rfl rfl (Y.bin rfl rfl rfl rfl) (#[true, true, true, true, true, true, true, true, true, false, false]) (by kernel_rfl) ?_
      refine GA.fix (d := 32) (v := .int .u8 ((orB ((pg 1)[i / 8]?.getD 0) (i % 8)).toNat : Int)) (or_val _ _) ?_
      refine GA.pure (i := 9) (fun _ _ _ _ _ h => h) rfl (by kernel_rfl) trivial rfl rfl (Y.indexAddr rfl Try.underlying25 I5 rfl rfl (by omega)) (#[true, true, true, true, true, true, true, true, true, true, false]) (by kernel_rfl) ?_
      refine GA.fix (d := 33) (v := .pointer (some ⟨b9, i / 8, none⟩)) (by show Value.pointer (some ⟨b9, 0 + ((i / 8 : Nat) : Int).toNat * 1, none⟩) = _; rw [Int.toNat_natCast, Nat.mul_one, Nat.zero_add]) ?_
      refine GA.one (i := 10) rfl (by kernel_rfl) (#[true, true, true, true, true, true, true, true, true, true, true]) (by kernel_rfl) ?_
      refine G.store (v := .int .u8 ((orB ((pg 1)[i / 8]?.getD 0) (i % 8)).toNat : Int)) .here rfl trivial rfl I5 rfl rfl rfl (by rw [bytesV_length]; omega) (bytesV (setU (pg 1) i)) (bytesV_set _ _ _) ?_
      refine G.nil ?_
      refine ⟨fun _ h => absurd h (by simp [hit]), ?_⟩
      refine GA.done (by kernel_rfl) ?_
      refine C.seq ?_
      refine C.seq ?_
      refine C.region ?_
      refine G.moveP rfl trivial rfl rfl rfl ?_
      refine G.moveS rfl trivial rfl rfl rfl ?_
      refine G.call E12 rfl rfl trivial rfl rfl (sset_spec W0 (_ :: S) L0 bs pg sg hsg 1 (by decide) _ c9 (setU (pg 1) i) (by rw [setU_length]; exact hp) (Rd.row0 .here)) rfl ?_
      rintro e L2 ⟨sg1, hsg1, rfl, rfl⟩
      refine G.assignI rfl trivial rfl rfl rfl ?_
      refine G.nil ?_
      refine C.seq ?_
      refine C.region ?_
      refine G.moveI rfl trivial rfl rfl rfl ?_
      refine G.bin rfl trivial rfl rfl rfl rfl rfl ?_
      refine G.nil ?_
      refine C.no rfl (by simp) ?_
      refine C.skip ?_
      refine C.seq ?_
      refine C.region ?_
      refine G.moveI rfl trivial rfl rfl rfl ?_
      refine G.moveP rfl trivial rfl rfl rfl ?_
      refine G.moveI rfl trivial rfl rfl rfl ?_
      refine G.makeBytes (l := 256) (c := 256) rfl trivial rfl rfl Try.underlying25 I5 rfl rfl (by decide) ?_
      intro b43
      refine G.call E12 rfl rfl trivial rfl rfl (sset_spec W0 (_ :: _ :: S) L0 bs _ sg1 hsg1 i (by omega) _ 256 zero256 zero256_length (Rd.row0 .here)) rfl ?_
      rintro e L2 ⟨sg2, hsg2, rfl, rfl⟩
      refine G.assignI rfl trivial rfl rfl rfl ?_
      refine G.assignI rfl trivial rfl rfl rfl ?_
      refine G.nil ?_
      refine C.less (fun _ h => h.tail.tail) ?_
      refine C.ret ?_
      -- end c1Tc2F
      exact ⟨rfl, _, Res.of (rs := [.tmp 2, .tmp 3]) rfl rfl, sg2, hsg2, rfl, rfl⟩
  · intro hc1
    omega
theorem take_full {q : Bk} (pg : Nat → List UInt8) (sg : Seg) (hsg : Sh q bs pg sg) (hp : (pg 1).length = 256) (hall : ∀ j, 2 ≤ j → j < 32 → usedP (pg 1) j = true) :
    FnS Try.prog W0 10 #[ptr bs] (S ++ (sg :: L0)) (fun e L' => L' = S ++ (sg :: L0) ∧ e = .returned (.tuple #[.int .i64 0, .int .i64 4])) := by
  refine FnS.of (args := [ptr bs]) Try.func10 rfl rfl ?_
  refine C.seq ?_
  refine C.region ?_
  refine G.assignI rfl trivial rfl rfl rfl ?_
  refine G.assignI rfl trivial rfl rfl rfl ?_
  refine G.nil ?_
  refine C.seq ?_
  refine C.region ?_
  refine G.moveP rfl trivial rfl rfl rfl ?_
  refine G.makeInterface rfl trivial rfl rfl Try.underlying29 rfl ?_
  refine G.call E19 rfl rfl trivial rfl rfl (aread_sheet W0 S L0 bs pg sg hsg) rfl ?_
  rintro e L2 ⟨v9, s9, hv9, rfl, rfl⟩
  obtain ⟨b9, c9, k9, rfl, rfl, hk9, hc9⟩ := hv9.block (by decide)
  refine G.moveU rfl trivial rfl rfl rfl ?_
  refine G.extractL rfl trivial rfl rfl rfl rfl ?_
  refine G.extractL rfl trivial rfl rfl rfl rfl ?_
  refine G.assignS rfl trivial rfl rfl rfl ?_
  refine G.assignI rfl trivial rfl rfl rfl ?_
  refine G.nil ?_
  refine C.seq ?_
  refine C.seq ?_
  refine C.region ?_
  refine G.moveI rfl trivial rfl rfl rfl ?_
  refine G.bin rfl trivial rfl rfl rfl rfl rfl ?_
  refine G.nil ?_
  refine C.no rfl (by simp) ?_
  refine C.skip ?_
  refine C.seq ?_
  refine C.seq ?_
  refine C.region ?_
  refine G.assignI rfl trivial rfl rfl rfl ?_
  refine G.nil ?_
  refine C.block ?_
  refine C.loop (fun m F D' L' => ∃ i : Nat, 2 ≤ i ∧ i ≤ 32 ∧ m = 32 - i ∧ F 6 = .int .i64 i ∧ F 4 = .slice (some ⟨b9, 0, none⟩) 256 c9 ∧ F 0 = ptr bs ∧ D' = [] ∧ [(b9, .row (bytesV (pg 1)) 5 k9)] :: (S ++ (sg :: L0)) = L') ⟨_, ⟨2, by omega, by omega, rfl, rfl, rfl, rfl, rfl, rfl⟩⟩ ?_
  rintro m F D' L' ⟨i, hi2, hi, rfl, h6, h4, h0', rfl, rfl⟩
  refine C.fix (d := 6) h6 ?_
  refine C.fix (d := 4) h4 ?_
  refine C.fix (d := 0) h0' ?_
  refine C.seq ?_
  refine C.seq ?_
  refine C.region ?_
  refine G.moveI rfl trivial rfl rfl rfl ?_
  refine G.bin rfl trivial rfl rfl rfl rfl rfl ?_
  refine G.nil ?_
  refine C.cond _ rfl ?_ ?_
  · intro hc1
    refine C.skip ?_
    refine C.seq ?_
    refine C.block ?_
    refine C.seq ?_
    refine C.seq ?_
    refine C.region ?_
    refine G.moveS rfl trivial rfl rfl rfl ?_
    refine G.moveI rfl trivial rfl rfl rfl ?_
    refine G.call E20 rfl rfl trivial rfl rfl (has_spec W0 _ _ 256 c9 (pg 1) rfl hp (Rd.row0 .here) (i : Int)) rfl ?_
    rintro e L2 ⟨rfl, rfl⟩
    rw [show hasB (pg 1) (i : Int) = true by unfold hasB; rw [Int.toNat_natCast, hall i hi2 (by omega), Bool.and_true]; exact decide_eq_true (by omega)]
    refine G.nil ?_
    refine C.condT rfl ?_
    refine C.exit ?_
    refine C.region ?_
    refine G.moveI rfl trivial rfl rfl rfl ?_
    refine G.add rfl trivial rfl rfl rfl rfl (by omega) ?_
    refine G.assignI rfl trivial rfl rfl rfl ?_
    refine G.nil ?_
    exact ⟨32 - (i + 1), by omega, i + 1, by omega, by omega, rfl, rfl, rfl, rfl, rfl, rfl⟩
  · intro hc1
    refine C.exit ?_
    refine C.seq ?_
    refine C.region ?_
    refine G.assignI rfl trivial rfl rfl rfl ?_
    refine G.assignI rfl trivial rfl rfl rfl ?_
    refine G.nil ?_
    refine C.less (fun _ h => h.tail) ?_
    refine C.ret ?_
    -- end c1F
    exact ⟨rfl, _, Res.of (rs := [.tmp 2, .tmp 3]) rfl rfl, rfl, rfl⟩
theorem free_ok {q : Bk} (pg : Nat → List UInt8) (sg : Seg) (hsg : Sh q bs pg sg) (hp : (pg 1).length = 256) (i : Nat) (hi : hasB (pg 1) (i : Int) = true) :
    FnS Try.prog W0 13 #[ptr bs, .int .i64 (i : Int)] (S ++ (sg :: L0)) (fun e L' => ∃ sg', Sh q bs (updP pg 1 (clrU (pg 1) i)) sg' ∧ L' = S ++ (sg' :: L0) ∧ e = .returned (.int .i64 0)) := by
  have hi32 : 2 ≤ i ∧ i < 32 := by
    unfold hasB at hi
    rw [Bool.and_eq_true] at hi
    have := of_decide_eq_true hi.1
    omega
  refine FnS.of (args := [ptr bs, .int .i64 (i : Int)]) Try.func13 rfl rfl ?_
  refine C.seq ?_
  refine C.region ?_
  refine G.assignI rfl trivial rfl rfl rfl ?_
  refine G.nil ?_
  refine C.seq ?_
  refine C.region ?_
  refine G.moveP rfl trivial rfl rfl rfl ?_
  refine G.makeInterface rfl trivial rfl rfl Try.underlying29 rfl ?_
  refine G.call E19 rfl rfl trivial rfl rfl (aread_sheet W0 S L0 bs pg sg hsg) rfl ?_
  rintro e L2 ⟨v9, s9, hv9, rfl, rfl⟩
  obtain ⟨b9, c9, k9, rfl, rfl, hk9, hc9⟩ := hv9.block (by decide)
  refine G.moveU rfl trivial rfl rfl rfl ?_
  refine G.extractL rfl trivial rfl rfl rfl rfl ?_
  refine G.extractL rfl trivial rfl rfl rfl rfl ?_
  refine G.assignS rfl trivial rfl rfl rfl ?_
  refine G.assignI rfl trivial rfl rfl rfl ?_
  refine G.nil ?_
  refine C.seq ?_
  refine C.block ?_
  refine C.seq ?_
  refine C.region ?_
  refine G.moveI rfl trivial rfl rfl rfl ?_
  refine G.bin rfl trivial rfl rfl rfl rfl rfl ?_
  refine G.assignB rfl trivial rfl rfl rfl ?_
  refine G.nil ?_
  refine C.no rfl (by simp) ?_
  refine C.seq ?_
  refine C.region ?_
  refine G.moveS rfl trivial rfl rfl rfl ?_
  refine G.moveI rfl trivial rfl rfl rfl ?_
  refine G.call E20 rfl rfl trivial rfl rfl (has_spec W0 _ _ 256 c9 (pg 1) rfl hp (Rd.row0 .here) (i : Int)) rfl ?_
  rintro e L2 ⟨rfl, rfl⟩
  rw [hi]
  first | refine G.notD rfl trivial rfl rfl rfl ?_ | refine G.not rfl trivial rfl rfl rfl ?_
  refine G.fix (d := 21) (v := .bool false) rfl ?_
  refine G.assignB rfl trivial rfl rfl rfl ?_
  refine G.nil ?_
  refine C.condF rfl ?_
  refine C.skip ?_
  refine C.seq ?_
  refine C.drawn mixed (_) [10] (fun _ h => h) ?_
  refine GA.pure (i := 0) (fun _ _ _ _ _ h => h) rfl (by kernel_rfl) trivial rfl rfl (Y.moveS rfl rfl) (#[true, false, false, false, false, false, false, false, false, false, false]) (by kernel_rfl) ?_
  refine GA.pure (i := 1) (fun _ _ _ _ _ h => h) rfl (by kernel_rfl) trivial rfl rfl (Y.moveI rfl rfl) (#[true, true, false, false, false, false, false, false, false, false, false]) (by kernel_rfl) ?_
  refine GA.pure (i := 2) (fun _ _ _ _ _ h => h) rfl (by kernel_rfl) trivial rfl rfl (Y.quo rfl rfl rfl (by decide)) (#[true, true, true, false, false, false, false, false, false, false, false]) (by kernel_rfl) ?_
  refine GA.fix (d := 24) (v := .int .i64 ((i / 8 : Nat) : Int)) (by show Value.int .i64 (IntKind.i64.wrap ((i : Int).tdiv 8)) = _; rw [Int.tdiv_eq_ediv_of_nonneg (by omega), wrap_i64 (by omega)]; congr 1) ?_
  refine GA.pure (i := 3) (fun _ _ _ _ _ h => h) rfl (by kernel_rfl) trivial rfl rfl (Y.indexAddr rfl Try.underlying25 I5 rfl rfl (by omega)) (#[true, true, true, true, false, false, false, false, false, false, false]) (by kernel_rfl) ?_
  refine GA.fix (d := 25) (v := .pointer (some ⟨b9, i / 8, none⟩)) (by show Value.pointer (some ⟨b9, 0 + ((i / 8 : Nat) : Int).toNat * 1, none⟩) = _; rw [Int.toNat_natCast, Nat.mul_one, Nat.zero_add]) ?_
  refine GA.read (i := 4) (fun _ _ _ _ _ h => h) rfl (by kernel_rfl) (by kernel_rfl) trivial rfl rfl (Y.loadAt (v := .int .u8 (((pg 1)[i / 8]?.getD 0).toNat : Int)) .here rfl Try.underlying5 rfl rfl (byte_at hp (by omega))) (#[true, true, true, true, true, false, false, false, false, false, false]) (by kernel_rfl) ?_
  refine GA.pure (i := 5) (fun _ _ _ _ _ h => h) rfl (by kernel_rfl) trivial rfl rfl (Y.moveI rfl rfl) (#[true, true, true, true, true, true, false, false, false, false, false]) (by kernel_rfl) ?_
  refine GA.pure (i := 6) (fun _ _ _ _ _ h => h) rfl (by kernel_rfl) trivial rfl rfl (Y.rem rfl rfl rfl (by decide)) (#[true, true, true, true, true, true, true, false, false, false, false]) (by kernel_rfl) ?_
  refine GA.fix (d := 28) (v := .int .i64 ((i % 8 : Nat) : Int)) (by show Value.int .i64 ((i : Int).tmod 8) = _; rw [Int.tmod_eq_emod_of_nonneg (by omega)]; congr 1) ?_
  refine GA.pure (i := 7) (fun _ _ _ _ _ h => h) rfl (by kernel_rfl) trivial rfl rfl (Y.shl rfl rfl rfl (by omega)) (#[true, true, true, true, true, true, true, true, false, false, false]) (by kernel_rfl) ?_
  refine GA.fix (d := 29) (v := .int .u8 ((2 ^ (i % 8) : Nat) : Int)) (shl_bit (Nat.mod_lt _ (by decide))) ?_
  refine GA.pure (i := 8) (fun _ _ _ _ _ h => h) rfl (by kernel_rfl) trivial rfl rfl (Y.bin rfl rfl rfl rfl) (#[true, true, true, true, true, true, true, true, true, false, false]) (by kernel_rfl) ?_
  refine GA.fix (d := 30) (v := .int .u8 ((clB ((pg 1)[i / 8]?.getD 0) (i % 8)).toNat : Int)) (cl_val _ _) ?_
  refine GA.pure (i := 9) (fun _ _ _ _ _ h => h) rfl (by kernel_rfl) trivial rfl rfl (Y.indexAddr rfl Try.underlying25 I5 rfl rfl (by omega)) (#[true, true, true, true, true, true, true, true, true, true, false]) (by kernel_rfl) ?_
  refine GA.fix (d := 31) (v := .pointer (some ⟨b9, i / 8, none⟩)) (by show Value.pointer (some ⟨b9, 0 + ((i / 8 : Nat) : Int).toNat * 1, none⟩) = _; rw [Int.toNat_natCast, Nat.mul_one, Nat.zero_add]) ?_
  refine GA.one (i := 10) rfl (by kernel_rfl) (#[true, true, true, true, true, true, true, true, true, true, true]) (by kernel_rfl) ?_
  refine G.store (v := .int .u8 ((clB ((pg 1)[i / 8]?.getD 0) (i % 8)).toNat : Int)) .here rfl trivial rfl I5 rfl rfl rfl (by rw [bytesV_length]; omega) (bytesV (clrU (pg 1) i)) (bytesV_set _ _ _) ?_
  refine G.nil ?_
  refine ⟨fun _ h => absurd h (by simp [hit]), ?_⟩
  refine GA.done (by kernel_rfl) ?_
  refine C.seq ?_
  refine C.region ?_
  refine G.moveP rfl trivial rfl rfl rfl ?_
  refine G.moveS rfl trivial rfl rfl rfl ?_
  refine G.call E12 rfl rfl trivial rfl rfl (sset_spec W0 (_ :: S) L0 bs pg sg hsg 1 (by decide) _ c9 (clrU (pg 1) i) (by rw [clrU_length]; exact hp) (Rd.row0 .here)) rfl ?_
  rintro e L2 ⟨sg1, hsg1, rfl, rfl⟩
  refine G.assignI rfl trivial rfl rfl rfl ?_
  refine G.nil ?_
  refine C.less (fun _ h => h.tail) ?_
  refine C.ret ?_
  -- end 
  exact ⟨rfl, _, Res.of (rs := [.tmp 4]) rfl rfl, sg1, hsg1, rfl, rfl⟩
theorem free_none {q : Bk} (pg : Nat → List UInt8) (sg : Seg) (hsg : Sh q bs pg sg) (hp : (pg 1).length = 256) (i : Int) (hi : hasB (pg 1) i = false) :
    FnS Try.prog W0 13 #[ptr bs, .int .i64 i] (S ++ (sg :: L0)) (fun e L' => L' = S ++ (sg :: L0) ∧ e = .returned (.int .i64 6)) := by
  refine FnS.of (args := [ptr bs, .int .i64 i]) Try.func13 rfl rfl ?_
  refine C.seq ?_
  refine C.region ?_
  refine G.assignI rfl trivial rfl rfl rfl ?_
  refine G.nil ?_
  refine C.seq ?_
  refine C.region ?_
  refine G.moveP rfl trivial rfl rfl rfl ?_
  refine G.makeInterface rfl trivial rfl rfl Try.underlying29 rfl ?_
  refine G.call E19 rfl rfl trivial rfl rfl (aread_sheet W0 S L0 bs pg sg hsg) rfl ?_
  rintro e L2 ⟨v9, s9, hv9, rfl, rfl⟩
  obtain ⟨b9, c9, k9, rfl, rfl, hk9, hc9⟩ := hv9.block (by decide)
  refine G.moveU rfl trivial rfl rfl rfl ?_
  refine G.extractL rfl trivial rfl rfl rfl rfl ?_
  refine G.extractL rfl trivial rfl rfl rfl rfl ?_
  refine G.assignS rfl trivial rfl rfl rfl ?_
  refine G.assignI rfl trivial rfl rfl rfl ?_
  refine G.nil ?_
  refine C.seq ?_
  refine C.block ?_
  refine C.seq ?_
  refine C.region ?_
  refine G.moveI rfl trivial rfl rfl rfl ?_
  refine G.bin rfl trivial rfl rfl rfl rfl rfl ?_
  refine G.assignB rfl trivial rfl rfl rfl ?_
  refine G.nil ?_
  refine C.no rfl (by simp) ?_
  refine C.seq ?_
  refine C.region ?_
  refine G.moveS rfl trivial rfl rfl rfl ?_
  refine G.moveI rfl trivial rfl rfl rfl ?_
  refine G.call E20 rfl rfl trivial rfl rfl (has_spec W0 _ _ 256 c9 (pg 1) rfl hp (Rd.row0 .here) i) rfl ?_
  rintro e L2 ⟨rfl, rfl⟩
  rw [hi]
  first | refine G.notD rfl trivial rfl rfl rfl ?_ | refine G.not rfl trivial rfl rfl rfl ?_
  refine G.fix (d := 21) (v := .bool true) rfl ?_
  refine G.assignB rfl trivial rfl rfl rfl ?_
  refine G.nil ?_
  refine C.condT rfl ?_
  refine C.seq ?_
  refine C.region ?_
  refine G.assignI rfl trivial rfl rfl rfl ?_
  refine G.nil ?_
  refine C.less (fun _ h => h.tail) ?_
  refine C.ret ?_
  -- end 
  exact ⟨rfl, _, Res.of (rs := [.tmp 4]) rfl rfl, rfl, rfl⟩
theorem setroot_ok {q : Bk} (pg : Nat → List UInt8) (sg : Seg) (hsg : Sh q bs pg sg) (hp : (pg 1).length = 256) (i : Nat) (hi : i = 0 ∨ (2 ≤ i ∧ i < 32)) :
    FnS Try.prog W0 14 #[ptr bs, .int .i64 (i : Int)] (S ++ (sg :: L0)) (fun e L' => ∃ sg', Sh q bs (updP pg 1 ((pg 1).set 4 (UInt8.ofNat i))) sg' ∧ L' = S ++ (sg' :: L0) ∧ e = .returned (.int .i64 0)) := by
  refine FnS.of (args := [ptr bs, .int .i64 (i : Int)]) Try.func14 rfl rfl ?_
  refine C.seq ?_
  refine C.region ?_
  refine G.assignI rfl trivial rfl rfl rfl ?_
  refine G.nil ?_
  refine C.seq ?_
  refine C.seq ?_
  refine C.region ?_
  refine G.moveI rfl trivial rfl rfl rfl ?_
  refine G.bin rfl trivial rfl rfl rfl rfl rfl ?_
  refine G.moveB rfl trivial rfl rfl rfl ?_
  refine G.fork (t := 9) _ rfl ?_ ?_
  · intro hg9
    refine G.moveI rfl ⟨_, rfl, rfl, rfl⟩ rfl rfl rfl ?_
    refine G.call E23 rfl rfl ⟨_, rfl, rfl, rfl⟩ rfl rfl (is_spec W0 _ (i : Int)) rfl ?_
    rintro e L2 ⟨rfl, rfl⟩
    first | refine G.notD rfl ⟨_, rfl, rfl, rfl⟩ rfl rfl rfl ?_ | refine G.not rfl ⟨_, rfl, rfl, rfl⟩ rfl rfl rfl ?_
    first | refine G.pickT rfl trivial rfl rfl rfl rfl ?_ | refine G.pickF rfl trivial rfl rfl rfl rfl ?_
    refine G.nil ?_
    refine C.cond _ rfl ?_ ?_
    · intro hc0
      omega
    · intro hc0
      refine C.skip ?_
      refine C.seq ?_
      refine C.region ?_
      refine G.moveP rfl trivial rfl rfl rfl ?_
      refine G.makeInterface rfl trivial rfl rfl Try.underlying29 rfl ?_
      refine G.call E19 rfl rfl trivial rfl rfl (aread_sheet W0 S L0 bs pg sg hsg) rfl ?_
      rintro e L2 ⟨v9, s9, hv9, rfl, rfl⟩
      obtain ⟨b9, c9, k9, rfl, rfl, hk9, hc9⟩ := hv9.block (by decide)
      refine G.moveU rfl trivial rfl rfl rfl ?_
      refine G.extractL rfl trivial rfl rfl rfl rfl ?_
      refine G.extractL rfl trivial rfl rfl rfl rfl ?_
      refine G.assignS rfl trivial rfl rfl rfl ?_
      refine G.assignI rfl trivial rfl rfl rfl ?_
      refine G.nil ?_
      refine C.seq ?_
      refine C.seq ?_
      refine C.region ?_
      refine G.moveI rfl trivial rfl rfl rfl ?_
      refine G.bin rfl trivial rfl rfl rfl rfl rfl ?_
      refine G.nil ?_
      refine C.no rfl (by simp) ?_
      refine C.skip ?_
      refine C.seq ?_
      refine C.region ?_
      refine G.moveS rfl trivial rfl rfl rfl ?_
      refine G.moveI rfl trivial rfl rfl rfl ?_
      refine G.convInt rfl trivial rfl rfl Try.underlying3 Try.underlying5 rfl ?_
      refine G.fix (d := 25) (v := .int .u8 ((UInt8.ofNat i).toNat : Int)) (u8_ofN i) ?_
      refine G.indexAddr rfl trivial rfl rfl Try.underlying25 I5 rfl rfl (by omega) ?_
      refine G.store (v := .int .u8 ((UInt8.ofNat i).toNat : Int)) .here rfl trivial rfl I5 rfl rfl rfl (by rw [bytesV_length]; omega) (bytesV ((pg 1).set 4 (UInt8.ofNat i))) (bytesV_set _ _ _) ?_
      refine G.nil ?_
      refine C.seq ?_
      refine C.region ?_
      refine G.moveP rfl trivial rfl rfl rfl ?_
      refine G.moveS rfl trivial rfl rfl rfl ?_
      refine G.call E12 rfl rfl trivial rfl rfl (sset_spec W0 (_ :: S) L0 bs pg sg hsg 1 (by decide) _ c9 ((pg 1).set 4 (UInt8.ofNat i)) (by rw [List.length_set]; exact hp) (Rd.row0 .here)) rfl ?_
      rintro e L2 ⟨sg1, hsg1, rfl, rfl⟩
      refine G.assignI rfl trivial rfl rfl rfl ?_
      refine G.nil ?_
      refine C.less (fun _ h => h.tail) ?_
      refine C.ret ?_
      -- end g9Tc0F
      exact ⟨rfl, _, Res.of (rs := [.tmp 4]) rfl rfl, sg1, hsg1, rfl, rfl⟩
  · intro hg9
    refine G.skip rfl rfl rfl rfl rfl rfl ?_
    refine G.skip rfl rfl rfl rfl rfl rfl ?_
    refine G.skip rfl rfl rfl rfl rfl rfl ?_
    first | refine G.pickT rfl trivial rfl rfl rfl rfl ?_ | refine G.pickF rfl trivial rfl rfl rfl rfl ?_
    refine G.nil ?_
    refine C.condF rfl ?_
    refine C.skip ?_
    refine C.seq ?_
    refine C.region ?_
    refine G.moveP rfl trivial rfl rfl rfl ?_
    refine G.makeInterface rfl trivial rfl rfl Try.underlying29 rfl ?_
    refine G.call E19 rfl rfl trivial rfl rfl (aread_sheet W0 S L0 bs pg sg hsg) rfl ?_
    rintro e L2 ⟨v9, s9, hv9, rfl, rfl⟩
    obtain ⟨b9, c9, k9, rfl, rfl, hk9, hc9⟩ := hv9.block (by decide)
    refine G.moveU rfl trivial rfl rfl rfl ?_
    refine G.extractL rfl trivial rfl rfl rfl rfl ?_
    refine G.extractL rfl trivial rfl rfl rfl rfl ?_
    refine G.assignS rfl trivial rfl rfl rfl ?_
    refine G.assignI rfl trivial rfl rfl rfl ?_
    refine G.nil ?_
    refine C.seq ?_
    refine C.seq ?_
    refine C.region ?_
    refine G.moveI rfl trivial rfl rfl rfl ?_
    refine G.bin rfl trivial rfl rfl rfl rfl rfl ?_
    refine G.nil ?_
    refine C.no rfl (by simp) ?_
    refine C.skip ?_
    refine C.seq ?_
    refine C.region ?_
    refine G.moveS rfl trivial rfl rfl rfl ?_
    refine G.moveI rfl trivial rfl rfl rfl ?_
    refine G.convInt rfl trivial rfl rfl Try.underlying3 Try.underlying5 rfl ?_
    refine G.fix (d := 25) (v := .int .u8 ((UInt8.ofNat i).toNat : Int)) (u8_ofN i) ?_
    refine G.indexAddr rfl trivial rfl rfl Try.underlying25 I5 rfl rfl (by omega) ?_
    refine G.store (v := .int .u8 ((UInt8.ofNat i).toNat : Int)) .here rfl trivial rfl I5 rfl rfl rfl (by rw [bytesV_length]; omega) (bytesV ((pg 1).set 4 (UInt8.ofNat i))) (bytesV_set _ _ _) ?_
    refine G.nil ?_
    refine C.seq ?_
    refine C.region ?_
    refine G.moveP rfl trivial rfl rfl rfl ?_
    refine G.moveS rfl trivial rfl rfl rfl ?_
    refine G.call E12 rfl rfl trivial rfl rfl (sset_spec W0 (_ :: S) L0 bs pg sg hsg 1 (by decide) _ c9 ((pg 1).set 4 (UInt8.ofNat i)) (by rw [List.length_set]; exact hp) (Rd.row0 .here)) rfl ?_
    rintro e L2 ⟨sg1, hsg1, rfl, rfl⟩
    refine G.assignI rfl trivial rfl rfl rfl ?_
    refine G.nil ?_
    refine C.less (fun _ h => h.tail) ?_
    refine C.ret ?_
    -- end g9F
    exact ⟨rfl, _, Res.of (rs := [.tmp 4]) rfl rfl, sg1, hsg1, rfl, rfl⟩
theorem setroot_bad (L : List Seg) (v : Value) (i : Int) (hi : ¬ (i = 0 ∨ (2 ≤ i ∧ i < 32))) :
    FnS Try.prog W0 14 #[v, .int .i64 i] L (fun e L' => L' = L ∧ e = .returned (.int .i64 3)) := by
  refine FnS.of (args := [v, .int .i64 i]) Try.func14 rfl rfl ?_
  refine C.seq ?_
  refine C.region ?_
  refine G.assignI rfl trivial rfl rfl rfl ?_
  refine G.nil ?_
  refine C.seq ?_
  refine C.seq ?_
  refine C.region ?_
  refine G.moveI rfl trivial rfl rfl rfl ?_
  refine G.bin rfl trivial rfl rfl rfl rfl rfl ?_
  refine G.moveB rfl trivial rfl rfl rfl ?_
  refine G.yes (t := 9) rfl (by omega) ?_
  refine G.moveI rfl ⟨_, rfl, rfl, rfl⟩ rfl rfl rfl ?_
  refine G.call E23 rfl rfl ⟨_, rfl, rfl, rfl⟩ rfl rfl (is_spec W0 _ i) rfl ?_
  rintro e L2 ⟨rfl, rfl⟩
  first | refine G.notD rfl ⟨_, rfl, rfl, rfl⟩ rfl rfl rfl ?_ | refine G.not rfl ⟨_, rfl, rfl, rfl⟩ rfl rfl rfl ?_
  first | refine G.pickT rfl trivial rfl rfl rfl rfl ?_ | refine G.pickF rfl trivial rfl rfl rfl rfl ?_
  refine G.nil ?_
  refine C.yes rfl (by omega) ?_
  refine C.seq ?_
  refine C.region ?_
  refine G.assignI rfl trivial rfl rfl rfl ?_
  refine G.nil ?_
  refine C.ret ?_
  -- end 
  exact ⟨rfl, _, Res.of (rs := [.tmp 4]) rfl rfl, rfl, rfl⟩
end alloc
end Go.Proofs.Ytoegcjgdaikfiaa
