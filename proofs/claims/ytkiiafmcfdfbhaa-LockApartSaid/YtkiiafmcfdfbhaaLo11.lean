/-
  Locks: LockFree walked.
-/
import Derived.Test.YtkiiafmcfdfbhaaLo10
import Derived.Test.YtkiiafmcfdfbhaaLo4
import Derived.Test.YtkiiafmcfdfbhaaSLX
namespace Go.Proofs.Ytkiiafmcfdfbhaa
open Go Go.SL Go.RowKit Go.Sort

def ky (j : Nat) : ByteArray := strB [UInt8.ofNat (97 + j)]
def fl (i : Nat) : List One := (List.range i).map fun j => ((99 : Int), (2 : Int), ky j)
theorem fl_succ (i : Nat) : fl (i + 1) = fl i ++ [((99 : Int), (2 : Int), ky i)] := by simp [fl, List.range_succ]
theorem fl_len (i : Nat) : (fl i).length = i := by simp [fl]
theorem fl_99 {i : Nat} : ∀ y ∈ fl i, y.1 = 99 := by
  intro y hy
  obtain ⟨j, _, rfl⟩ := List.mem_map.1 hy
  rfl
theorem onL_own {x : One} {ls : List One} (h : ∀ y ∈ ls, y.1 = x.1) : onL x ls = [] := by
  unfold onL
  rw [List.map_eq_nil_iff, List.filter_eq_nil_iff]
  intro y hy
  rw [against_self x y (h y hy).symm]
  decide
theorem fl_new {i : Nat} (h : i < 5) : inL ((99 : Int), (2 : Int), ky i) (fl i) = false := by
  rw [Bool.eq_false_iff]
  intro hin
  obtain ⟨j, hj, he⟩ := List.mem_map.1 ((inL_iff _ _).1 hin)
  rw [List.mem_range] at hj
  have h2 : ky j = ky i := congrArg (fun o : One => o.2.2) he
  unfold ky at h2
  have h3 := (List.cons.inj (strB_inj.1 h2)).1
  have h4 := congrArg UInt8.toNat h3
  simp at h4
  omega
theorem fl_whole : inL ((99 : Int), (3 : Int), ByteArray.empty) (fl 5) = false := by
  rw [Bool.eq_false_iff]
  intro hin
  obtain ⟨j, hj, he⟩ := List.mem_map.1 ((inL_iff _ _).1 hin)
  have h2 : (2 : Int) = 3 := congrArg (fun o : One => o.2.1) he
  omega
section laws
variable (W0 : World)
theorem free_walk (a : Option Addr) (len cap : Nat) (ops : List LOp) (h : LOps W0 a len cap ops) : FnS Try.prog W0 6 #[.slice a len cap] [] (fun e _ => e = .returned (.bool true)) := by
  obtain ⟨rfl, hlc, hcap, hr, hwf⟩ := h
  have hmax : maxLen ≤ 9223372036854775807 := by decide
  refine FnS.of (args := [.slice a ops.length cap]) Try.func6 rfl rfl ?_
  refine C.seq ?_
  refine C.region ?_
  refine G.assignB rfl trivial rfl rfl rfl ?_
  refine G.nil ?_
  refine C.seq ?_
  refine C.region ?_
  refine G.call E9 rfl rfl trivial rfl rfl (begun_spec W0 _) rfl ?_
  rintro e L2 ⟨rfl, rfl⟩
  refine G.assignB rfl trivial rfl rfl rfl ?_
  refine G.nil ?_
  refine C.seq ?_
  refine C.seq ?_
  refine C.region ?_
  refine G.moveB rfl trivial rfl rfl rfl ?_
  first | refine G.notD rfl trivial rfl rfl rfl ?_ | refine G.not rfl trivial rfl rfl rfl ?_
  refine G.nil ?_
  refine C.condF rfl ?_
  refine C.skip ?_
  refine C.seq ?_
  refine C.region ?_
  refine G.call E10 rfl rfl trivial rfl rfl (new_spec W0 _) rfl ?_
  rintro e L2 ⟨bk, s1, s2, hk, rfl, rfl⟩
  refine G.assignP rfl trivial rfl rfl rfl ?_
  refine G.nil ?_
  refine C.seq ?_
  refine C.seq ?_
  refine C.region ?_
  refine G.assignI rfl trivial rfl rfl rfl ?_
  refine G.nil ?_
  refine C.post (fun F D' L' => ∃ (ls : List One) (s1 s2 : Seg), ls.length ≤ 40 ∧ (∀ y ∈ ls, 1 ≤ y.1 ∧ y.1 ≤ 8) ∧ LkIs bk ls s1 s2 ∧ F 4 = .pointer (some ⟨bk, 0, none⟩) ∧ D' = [] ∧ s1 :: s2 :: [] = L') ?_ ?_
  ·
    refine C.block ?_
    refine C.loop (fun m F D' L' => ∃ (i : Nat) (ls : List One) (s1 s2 : Seg), m = ops.length - i + 0 ∧ i ≤ ops.length ∧ i ≤ 40 ∧ ls.length ≤ i ∧ (∀ y ∈ ls, 1 ≤ y.1 ∧ y.1 ≤ 8) ∧ LkIs bk ls s1 s2 ∧ F 0 = .slice a ops.length cap ∧ F 4 = .pointer (some ⟨bk, 0, none⟩) ∧ F 5 = .int .i64 (i : Int) ∧ D' = [] ∧ s1 :: s2 :: [] = L') ⟨_, ⟨0, [], s1, s2, rfl, by omega, by omega, by simp, by simp, hk, rfl, rfl, rfl, rfl, rfl⟩⟩ ?_
    rintro m F D' L' ⟨i, ls, s1, s2, rfl, hi, hi40, hln, hall, hk, h0, h4, h5, rfl, rfl⟩
    refine C.fix (d := 0) h0 ?_
    refine C.fix (d := 4) h4 ?_
    refine C.fix (d := 5) h5 ?_
    refine C.seq ?_
    refine C.seq ?_
    refine C.region ?_
    refine G.moveI rfl trivial rfl rfl rfl ?_
    refine G.moveS rfl trivial rfl rfl rfl ?_
    refine G.lenSlice rfl trivial rfl rfl Try.underlying22 rfl ?_
    refine G.bin rfl trivial rfl rfl rfl rfl rfl ?_
    refine G.moveB rfl trivial rfl rfl rfl ?_
    refine G.fork (t := 22) _ rfl ?_ ?_
    · intro hg22
      refine G.moveI rfl ⟨_, rfl, rfl, rfl⟩ rfl rfl rfl ?_
      refine G.bin rfl ⟨_, rfl, rfl, rfl⟩ rfl rfl rfl rfl rfl ?_
      first | refine G.pickT rfl trivial rfl rfl rfl rfl ?_ | refine G.pickF rfl trivial rfl rfl rfl rfl ?_
      refine G.nil ?_
      refine C.cond _ rfl ?_ ?_
      · intro hc1
        have hlt : i < ops.length := by first | assumption | omega
        obtain ⟨p, o, rfl, _⟩ := (hr []).some_ (by rw [chunk_length (k := 4) (fun _ _ => rfl)]; omega)
        refine C.skip ?_
        refine C.seq ?_
        refine C.block ?_
        refine C.drawn mixed ([]) [] (fun _ h => memNone h) ?_
        refine GA.pure (i := 0) (fun _ _ _ _ _ h => h) rfl (by kernel_rfl) trivial rfl rfl (Y.moveP rfl rfl) (#[true, false, false, false, false, false, false, false, false, false, false, false, false, false, false, false, false, false, false, false, false, false, false]) (by kernel_rfl) ?_
        refine GA.pure (i := 1) (fun _ _ _ _ _ h => h) rfl (by kernel_rfl) trivial rfl rfl (Y.moveS rfl rfl) (#[true, true, false, false, false, false, false, false, false, false, false, false, false, false, false, false, false, false, false, false, false, false, false]) (by kernel_rfl) ?_
        refine GA.pure (i := 2) (fun _ _ _ _ _ h => h) rfl (by kernel_rfl) trivial rfl rfl (Y.moveI rfl rfl) (#[true, true, true, false, false, false, false, false, false, false, false, false, false, false, false, false, false, false, false, false, false, false, false]) (by kernel_rfl) ?_
        refine GA.pure (i := 3) (fun _ _ _ _ _ h => h) rfl (by kernel_rfl) trivial rfl rfl (Y.indexAddr rfl Try.underlying22 I31 rfl rfl (by omega)) (#[true, true, true, true, false, false, false, false, false, false, false, false, false, false, false, false, false, false, false, false, false, false, false]) (by kernel_rfl) ?_
        refine GA.pure (i := 4) (fun _ _ _ _ _ h => h) rfl (by kernel_rfl) trivial rfl rfl (Y.fieldAddr rfl Try.underlying31 rfl I2 rfl rfl) (#[true, true, true, true, true, false, false, false, false, false, false, false, false, false, false, false, false, false, false, false, false, false, false]) (by kernel_rfl) ?_
        refine GA.read (i := 5) (fun _ _ _ _ _ h => h) rfl (by kernel_rfl) (by kernel_rfl) trivial rfl rfl (Y.load rfl Try.underlying2 rfl rfl (fun w hm => cellR hr hlt w hm 2 _ rfl)) (#[true, true, true, true, true, true, false, false, false, false, false, false, false, false, false, false, false, false, false, false, false, false, false]) (by kernel_rfl) ?_
        refine GA.pure (i := 6) (fun _ _ _ _ _ h => h) rfl (by kernel_rfl) trivial rfl rfl (Y.bin rfl rfl rfl rfl) (#[true, true, true, true, true, true, true, false, false, false, false, false, false, false, false, false, false, false, false, false, false, false, false]) (by kernel_rfl) ?_
        refine GA.low (d := 34) 7 (by decide) ⟨_, rfl⟩ ?_
        intro j34 hj34
        refine GA.pure (i := 7) (fun _ _ _ _ _ h => h) rfl (by kernel_rfl) trivial rfl rfl (Y.addN (i := 1) rfl rfl rfl (by omega)) (#[true, true, true, true, true, true, true, true, false, false, false, false, false, false, false, false, false, false, false, false, false, false, false]) (by kernel_rfl) ?_
        refine GA.pure (i := 8) (fun _ _ _ _ _ h => h) rfl (by kernel_rfl) trivial rfl rfl (Y.moveS rfl rfl) (#[true, true, true, true, true, true, true, true, true, false, false, false, false, false, false, false, false, false, false, false, false, false, false]) (by kernel_rfl) ?_
        refine GA.pure (i := 9) (fun _ _ _ _ _ h => h) rfl (by kernel_rfl) trivial rfl rfl (Y.moveI rfl rfl) (#[true, true, true, true, true, true, true, true, true, true, false, false, false, false, false, false, false, false, false, false, false, false, false]) (by kernel_rfl) ?_
        refine GA.pure (i := 10) (fun _ _ _ _ _ h => h) rfl (by kernel_rfl) trivial rfl rfl (Y.indexAddr rfl Try.underlying22 I31 rfl rfl (by omega)) (#[true, true, true, true, true, true, true, true, true, true, true, false, false, false, false, false, false, false, false, false, false, false, false]) (by kernel_rfl) ?_
        refine GA.pure (i := 11) (fun _ _ _ _ _ h => h) rfl (by kernel_rfl) trivial rfl rfl (Y.fieldAddr rfl Try.underlying31 rfl I3 rfl rfl) (#[true, true, true, true, true, true, true, true, true, true, true, true, false, false, false, false, false, false, false, false, false, false, false]) (by kernel_rfl) ?_
        refine GA.read (i := 12) (fun _ _ _ _ _ h => h) rfl (by kernel_rfl) (by kernel_rfl) trivial rfl rfl (Y.load rfl Try.underlying3 rfl rfl (fun w hm => cellR hr hlt w hm 1 _ rfl)) (#[true, true, true, true, true, true, true, true, true, true, true, true, true, false, false, false, false, false, false, false, false, false, false]) (by kernel_rfl) ?_
        refine GA.pure (i := 13) (fun _ _ _ _ _ h => h) rfl (by kernel_rfl) trivial rfl rfl (Y.bin rfl rfl rfl rfl) (#[true, true, true, true, true, true, true, true, true, true, true, true, true, true, false, false, false, false, false, false, false, false, false]) (by kernel_rfl) ?_
        refine GA.low (d := 41) 3 (by decide) ⟨_, rfl⟩ ?_
        intro j41 hj41
        refine GA.pure (i := 14) (fun _ _ _ _ _ h => h) rfl (by kernel_rfl) trivial rfl rfl (Y.rem rfl rfl rfl (by omega)) (#[true, true, true, true, true, true, true, true, true, true, true, true, true, true, true, false, false, false, false, false, false, false, false]) (by kernel_rfl) ?_
        refine GA.fix (d := 42) (v := .int .i64 ((j41 % 3 : Nat) : Int)) rfl ?_
        refine GA.pure (i := 15) (fun _ _ _ _ _ h => h) rfl (by kernel_rfl) trivial rfl rfl (Y.addN (i := 1) rfl rfl rfl (by omega)) (#[true, true, true, true, true, true, true, true, true, true, true, true, true, true, true, true, false, false, false, false, false, false, false]) (by kernel_rfl) ?_
        refine GA.pure (i := 16) (fun _ _ _ _ _ h => h) rfl (by kernel_rfl) trivial rfl rfl (Y.moveI rfl rfl) (#[true, true, true, true, true, true, true, true, true, true, true, true, true, true, true, true, true, false, false, false, false, false, false]) (by kernel_rfl) ?_
        refine GA.pure (i := 17) (fun _ _ _ _ _ h => h) rfl (by kernel_rfl) trivial rfl rfl (Y.rem rfl rfl rfl (by omega)) (#[true, true, true, true, true, true, true, true, true, true, true, true, true, true, true, true, true, true, false, false, false, false, false]) (by kernel_rfl) ?_
        refine GA.fix (d := 45) (v := .int .i64 ((i % 5 : Nat) : Int)) rfl ?_
        refine GA.pure (i := 18) (fun _ _ _ _ _ h => h) rfl (by kernel_rfl) trivial rfl rfl (Y.addN (i := 97) rfl rfl rfl (by omega)) (#[true, true, true, true, true, true, true, true, true, true, true, true, true, true, true, true, true, true, true, false, false, false, false]) (by kernel_rfl) ?_
        refine GA.pure (i := 19) (fun _ _ _ _ _ h => h) rfl (by kernel_rfl) trivial rfl rfl (Y.convInt rfl Try.underlying3 Try.underlying5 rfl) (#[true, true, true, true, true, true, true, true, true, true, true, true, true, true, true, true, true, true, true, true, false, false, false]) (by kernel_rfl) ?_
        refine GA.byte (d := 47) ⟨_, rfl⟩ ?_
        intro c47
        refine GA.one (i := 20) rfl (by kernel_rfl) (#[true, true, true, true, true, true, true, true, true, true, true, true, true, true, true, true, true, true, true, true, true, false, false]) (by kernel_rfl) ?_
        refine G.buildSliceL (cs := [.int .u8 (c47.toNat : Int)]) (zs := [(.int .u8 0)]) rfl trivial rfl rfl Try.underlying43 I5 rfl (by kernel_rfl) rfl rfl ?_
        intro b48
        refine G.nil ?_
        refine ⟨fun _ _ h => memNone h, ?_⟩
        refine GA.one (i := 21) rfl (by kernel_rfl) (#[true, true, true, true, true, true, true, true, true, true, true, true, true, true, true, true, true, true, true, true, true, true, false]) (by kernel_rfl) ?_
        refine G.bytesStr [c47] rfl trivial rfl rfl Try.underlying43 Try.underlying5 Try.underlying9 rfl rfl (Rd.row0 .here) ?_
        refine G.nil ?_
        refine ⟨fun _ _ h => memNone h, ?_⟩
        refine GA.one (i := 22) rfl (by kernel_rfl) (#[true, true, true, true, true, true, true, true, true, true, true, true, true, true, true, true, true, true, true, true, true, true, true]) (by kernel_rfl) ?_
        refine G.call E12 rfl rfl trivial rfl rfl (FnS.perm (lock_spec W0 ([(b48, .row [.int .u8 (c47.toNat : Int)] 5 1)] :: []) bk ls s1 s2 hk (by omega) ((1 + j34 : Nat) : Int) ((1 + j41 % 3 : Nat) : Int) (strB [c47]) (by omega)) P3.symm) rfl ?_
        rintro e L2 ⟨v, sv, s3, s4, hk2, hv, rfl, rfl⟩
        refine G.nil ?_
        refine ⟨fun _ _ h => memNone h, ?_⟩
        refine GA.done (by kernel_rfl) ?_
        refine C.region ?_
        refine G.moveI rfl trivial rfl rfl rfl ?_
        refine G.addN (j := 1) rfl trivial rfl rfl rfl rfl (by omega) ?_
        refine G.assignI rfl trivial rfl rfl rfl ?_
        refine G.less (L' := s3 :: s4 :: []) (fun _ h => h.tail.fewer (by simp)) ?_
        refine G.nil ?_
        exact ⟨ops.length - (i + 1) + 0, by omega, i + 1, _, s3, s4, rfl, by omega, by omega, by have := locked_le (lockOf ((1 + j34 : Nat) : Int) ((1 + j41 % 3 : Nat) : Int) (strB [c47])) ls; omega, locked_all (by show 1 ≤ ((1 + j34 : Nat) : Int) ∧ ((1 + j34 : Nat) : Int) ≤ 8; omega) hall, hk2, rfl, rfl, rfl, rfl, rfl⟩
      · intro hc1
        refine C.exit ?_
        exact ⟨ls, s1, s2, by omega, hall, hk, rfl, rfl, rfl⟩
    · intro hg22
      refine G.skip rfl rfl rfl rfl rfl rfl ?_
      refine G.skip rfl rfl rfl rfl rfl rfl ?_
      first | refine G.pickT rfl trivial rfl rfl rfl rfl ?_ | refine G.pickF rfl trivial rfl rfl rfl rfl ?_
      refine G.nil ?_
      refine C.condF rfl ?_
      refine C.exit ?_
      exact ⟨ls, s1, s2, by omega, hall, hk, rfl, rfl, rfl⟩
  ·
    rintro F D' L' ⟨ls0, s1, s2, hln, hall, hk, h4, rfl, rfl⟩
    refine C.fix (d := 4) h4 ?_
    refine C.seq ?_
    refine C.region ?_
    refine G.moveP rfl trivial rfl rfl rfl ?_
    refine G.call E17 rfl rfl trivial rfl rfl (llen_spec W0 _ bk ls0 s1 s2 hk) rfl ?_
    rintro e L2 ⟨rfl, rfl⟩
    refine G.assignI rfl trivial rfl rfl rfl ?_
    refine G.nil ?_
    refine C.seq ?_
    refine C.region ?_
    refine G.assignI rfl trivial rfl rfl rfl ?_
    refine G.nil ?_
    refine C.seq ?_
    refine C.seq ?_
    refine C.region ?_
    refine G.assignI rfl trivial rfl rfl rfl ?_
    refine G.nil ?_
    refine C.post (fun F D' L' => ∃ (s1 s2 : Seg), LkIs bk [] s1 s2 ∧ F 4 = .pointer (some ⟨bk, 0, none⟩) ∧ F 6 = .int .i64 (ls0.length : Int) ∧ F 7 = .int .i64 (ls0.length : Int) ∧ D' = [] ∧ s1 :: s2 :: [] = L') ?_ ?_
    ·
      refine C.block ?_
      refine C.loop (fun m F D' L' => ∃ (t : Nat) (ls : List One) (s1 s2 : Seg) (q : Nat), m = 9 - t + 0 ∧ 1 ≤ t ∧ t ≤ 9 ∧ q + ls.length = ls0.length ∧ (∀ y ∈ ls, (t : Int) ≤ y.1 ∧ y.1 ≤ 8) ∧ LkIs bk ls s1 s2 ∧ F 4 = .pointer (some ⟨bk, 0, none⟩) ∧ F 6 = .int .i64 (ls0.length : Int) ∧ F 7 = .int .i64 (q : Int) ∧ F 8 = .int .i64 (t : Int) ∧ D' = [] ∧ s1 :: s2 :: [] = L') ⟨_, ⟨1, ls0, s1, s2, 0, rfl, by omega, by omega, by omega, hall, hk, rfl, rfl, rfl, rfl, rfl, rfl⟩⟩ ?_
      rintro m F D' L' ⟨t, ls, s1, s2, q, rfl, ht1, ht9, hq, hls, hk, h4, h6, h7, h8, rfl, rfl⟩
      refine C.fix (d := 4) h4 ?_
      refine C.fix (d := 6) h6 ?_
      refine C.fix (d := 7) h7 ?_
      refine C.fix (d := 8) h8 ?_
      refine C.seq ?_
      refine C.seq ?_
      refine C.region ?_
      refine G.moveI rfl trivial rfl rfl rfl ?_
      refine G.bin rfl trivial rfl rfl rfl rfl rfl ?_
      refine G.nil ?_
      refine C.cond _ rfl ?_ ?_
      · intro hc2
        refine C.skip ?_
        refine C.seq ?_
        refine C.block ?_
        refine C.region ?_
        refine G.moveI rfl trivial rfl rfl rfl ?_
        refine G.moveP rfl trivial rfl rfl rfl ?_
        refine G.moveI rfl trivial rfl rfl rfl ?_
        refine G.call E15 rfl rfl trivial rfl rfl (free_spec W0 _ bk ls s1 s2 hk (by omega) t) rfl ?_
        rintro e L2 ⟨s3, s4, hk2, rfl, rfl⟩
        have hol := others_le t ls
        refine G.addN rfl trivial rfl rfl rfl rfl (by omega) ?_
        refine G.assignI rfl trivial rfl rfl rfl ?_
        refine G.nil ?_
        refine C.region ?_
        refine G.moveI rfl trivial rfl rfl rfl ?_
        refine G.addN (j := 1) rfl trivial rfl rfl rfl rfl (by omega) ?_
        refine G.assignI rfl trivial rfl rfl rfl ?_
        refine G.nil ?_
        exact ⟨9 - (t + 1) + 0, by omega, t + 1, others t ls, s3, s4, q + (ls.length - (others t ls).length), rfl, by omega, by omega, by omega, fun y hy => by have h1 := List.mem_filter.1 hy; have h2 := hls y h1.1; have h3 : ¬ y.1 = (t : Int) := (by simpa using h1.2); (constructor <;> omega), hk2, rfl, rfl, rfl, rfl, rfl, rfl⟩
      · intro hc2
        refine C.exit ?_
        have hnil : ls = [] := List.eq_nil_iff_forall_not_mem.2 fun y hy => by have := hls y hy; omega
        subst hnil
        obtain rfl : q = ls0.length := by simpa using hq
        exact ⟨s1, s2, hk, rfl, rfl, rfl, rfl, rfl⟩
    ·
      rintro F D' L' ⟨s1, s2, hk, h4, h6, h7, rfl, rfl⟩
      refine C.fix (d := 4) h4 ?_
      refine C.fix (d := 6) h6 ?_
      refine C.fix (d := 7) h7 ?_
      refine C.seq ?_
      refine C.seq ?_
      refine C.region ?_
      refine G.moveI rfl trivial rfl rfl rfl ?_
      refine G.moveI rfl trivial rfl rfl rfl ?_
      refine G.bin rfl trivial rfl rfl rfl rfl rfl ?_
      refine G.moveB rfl trivial rfl rfl rfl ?_
      refine G.no (t := 65) rfl (by omega) ?_
      refine G.moveP rfl ⟨_, rfl, rfl, rfl⟩ rfl rfl rfl ?_
      refine G.call E17 rfl rfl ⟨_, rfl, rfl, rfl⟩ rfl rfl (llen_spec W0 _ bk [] s1 s2 hk) rfl ?_
      rintro e L2 ⟨rfl, rfl⟩
      refine G.bin rfl ⟨_, rfl, rfl, rfl⟩ rfl rfl rfl rfl rfl ?_
      first | refine G.pickT rfl trivial rfl rfl rfl rfl ?_ | refine G.pickF rfl trivial rfl rfl rfl rfl ?_
      refine G.nil ?_
      refine C.no rfl (by simp) ?_
      refine C.skip ?_
      refine C.seq ?_
      refine C.seq ?_
      refine C.region ?_
      refine G.assignI rfl trivial rfl rfl rfl ?_
      refine G.nil ?_
      refine C.block ?_
      refine C.loop (fun m F D' L' => ∃ (i : Nat) (s1 s2 : Seg), m = 5 - i + 0 ∧ i ≤ 5 ∧ LkIs bk (fl i) s1 s2 ∧ F 4 = .pointer (some ⟨bk, 0, none⟩) ∧ F 9 = .int .i64 (i : Int) ∧ D' = [] ∧ s1 :: s2 :: [] = L') ⟨_, ⟨0, s1, s2, rfl, by omega, hk, rfl, rfl, rfl, rfl⟩⟩ ?_
      rintro m F D' L' ⟨i, s1, s2, rfl, hi, hk, h4, h9, rfl, rfl⟩
      refine C.fix (d := 4) h4 ?_
      refine C.fix (d := 9) h9 ?_
      refine C.seq ?_
      refine C.seq ?_
      refine C.region ?_
      refine G.moveI rfl trivial rfl rfl rfl ?_
      refine G.bin rfl trivial rfl rfl rfl rfl rfl ?_
      refine G.nil ?_
      refine C.cond _ rfl ?_ ?_
      · intro hc4
        refine C.skip ?_
        refine C.seq ?_
        refine C.block ?_
        refine C.seq ?_
        refine C.region ?_
        refine G.moveP rfl trivial rfl rfl rfl ?_
        refine G.moveI rfl trivial rfl rfl rfl ?_
        refine G.addN (i := 97) rfl trivial rfl rfl rfl rfl (by omega) ?_
        refine G.convInt rfl trivial rfl rfl Try.underlying3 Try.underlying5 rfl ?_
        refine G.fix (d := 78) (v := .int .u8 ((UInt8.ofNat (97 + i)).toNat : Int)) (u8_ofN _) ?_
        refine G.buildSliceL (cs := [.int .u8 ((UInt8.ofNat (97 + i)).toNat : Int)]) (zs := [(.int .u8 0)]) rfl trivial rfl rfl Try.underlying43 I5 rfl (by kernel_rfl) rfl rfl ?_
        intro b79
        refine G.bytesStr [UInt8.ofNat (97 + i)] rfl trivial rfl rfl Try.underlying43 Try.underlying5 Try.underlying9 rfl rfl (Rd.row0 .here) ?_
        refine G.call E12 rfl rfl trivial rfl rfl (FnS.perm (lock_ok W0 ([(b79, .row [.int .u8 ((UInt8.ofNat (97 + i)).toNat : Int)] 5 1)] :: []) bk (fl i) (fl (i + 1)) s1 s2 hk (by rw [fl_len]; omega) 99 2 (ky i) (by decide) (onL_own fl_99) (by rw [show lockOf 99 2 (ky i) = ((99 : Int), (2 : Int), ky i) from rfl, fl_new (by omega), fl_succ]; rfl)) P3.symm) rfl ?_
        rintro e L2 ⟨a1, c1, s3, s4, hk2, rfl, rfl⟩
        refine G.moveU rfl trivial rfl rfl rfl ?_
        refine G.extractL rfl trivial rfl rfl rfl rfl ?_
        refine G.extractL rfl trivial rfl rfl rfl rfl ?_
        refine G.assignS rfl trivial rfl rfl rfl ?_
        refine G.assignB rfl trivial rfl rfl rfl ?_
        refine G.nil ?_
        refine C.seq ?_
        refine C.region ?_
        refine G.moveB rfl trivial rfl rfl rfl ?_
        first | refine G.notD rfl trivial rfl rfl rfl ?_ | refine G.not rfl trivial rfl rfl rfl ?_
        refine G.nil ?_
        refine C.condF rfl ?_
        refine C.skip ?_
        refine C.region ?_
        refine G.moveI rfl trivial rfl rfl rfl ?_
        refine G.addN (j := 1) rfl trivial rfl rfl rfl rfl (by omega) ?_
        refine G.assignI rfl trivial rfl rfl rfl ?_
        refine G.less (L' := s3 :: s4 :: []) (fun _ h => h.fewer (by simp)) ?_
        refine G.nil ?_
        exact ⟨5 - (i + 1) + 0, by omega, i + 1, s3, s4, rfl, by omega, hk2, rfl, rfl, rfl, rfl⟩
      · intro hc4
        obtain rfl : i = 5 := by omega
        refine C.exit ?_
        refine C.seq ?_
        refine C.region ?_
        refine G.moveP rfl trivial rfl rfl rfl ?_
        refine G.call E12 rfl rfl trivial rfl rfl (lock_ok W0 [] bk (fl 5) (fl 5 ++ [((99 : Int), (3 : Int), ByteArray.empty)]) s1 s2 hk (by rw [fl_len]; omega) 99 3 ByteArray.empty (by decide) (onL_own fl_99) (by rw [show lockOf 99 3 ByteArray.empty = ((99 : Int), (3 : Int), ByteArray.empty) from rfl, fl_whole]; rfl)) rfl ?_
        rintro e L2 ⟨a1, c1, s3, s4, hk2, rfl, rfl⟩
        refine G.moveU rfl trivial rfl rfl rfl ?_
        refine G.extractL rfl trivial rfl rfl rfl rfl ?_
        refine G.extractL rfl trivial rfl rfl rfl rfl ?_
        refine G.assignS rfl trivial rfl rfl rfl ?_
        refine G.assignB rfl trivial rfl rfl rfl ?_
        refine G.nil ?_
        refine C.seq ?_
        refine C.region ?_
        refine G.moveB rfl trivial rfl rfl rfl ?_
        refine G.moveB rfl trivial rfl rfl rfl ?_
        refine G.moveP rfl ⟨_, rfl, rfl, rfl⟩ rfl rfl rfl ?_
        refine G.call E15 rfl rfl ⟨_, rfl, rfl, rfl⟩ rfl rfl (free_spec W0 _ bk _ s3 s4 hk2 (by rw [List.length_append, fl_len]; decide) 99) rfl ?_
        rintro e L2 ⟨s5, s6, hk3, rfl, rfl⟩
        refine G.bin rfl ⟨_, rfl, rfl, rfl⟩ rfl rfl rfl rfl rfl ?_
        first | refine G.pickT rfl trivial rfl rfl rfl rfl ?_ | refine G.pickF rfl trivial rfl rfl rfl rfl ?_
        refine G.assignB rfl trivial rfl rfl rfl ?_
        refine G.nil ?_
        refine C.ret ?_
        -- end c4F
        exact ⟨rfl, _, Res.of (rs := [.tmp 2]) rfl rfl, rfl⟩
end laws
end Go.Proofs.Ytkiiafmcfdfbhaa
