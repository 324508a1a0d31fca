/-
  Sheets: SheetReads walked.
-/
import Derived.Test.YtgfdghhojnmaoaaSh6
namespace Go.Proofs.Ytgfdghhojnmaoaa
namespace Sht
open Go Go.SL Go.RowKit

theorem reads_R (bp : Nat) (x : UInt8) (no : Int) : (0 ≤ no ∧ no ≤ 95 ∧ ∃ ys : List UInt8, ys.length = 256 ∧ shR (fun _ => none) (bookR (psB 4 bp x) 0) no = .ok ys) ∨ (¬ (0 ≤ no ∧ no ≤ 95) ∧ shR (fun _ => none) (bookR (psB 4 bp x) 0) no = .error 3) := by
  unfold shR
  by_cases h : no < 0 ∨ 95 < no
  · rw [if_pos h]; exact .inr ⟨by omega, rfl⟩
  · rw [if_neg h]
    refine .inl ⟨by omega, by omega, ?_⟩
    show ∃ ys, ys.length = 256 ∧ bookR (psB 4 bp x) 0 no = .ok ys
    rw [book_set_R noPages_length (by decide)]
    split
    · exact ⟨_, ofB_length _, rfl⟩
    · exact ⟨_, zero256_length, noPages_R (by omega) 0 (by simp)⟩
theorem reads_4 (bp : Nat) (x : UInt8) : shR (fun _ => none) (bookR (psB 4 bp x) 0) 4 = .ok (ofB [x]) := by
  unfold shR
  rw [if_neg (by decide)]
  exact psB_R (no := 4) (by decide) bp x
theorem bytesV_put (ys : List UInt8) (k : Nat) (c : UInt8) : (bytesV ys).set (0 + ((k : Int)).toNat * 1) (.int .u8 (c.toNat : Int)) = bytesV (ys.set k c) := by
  rw [Nat.zero_add, Nat.mul_one, Int.toNat_natCast]
  exact bytesV_set ys k c
theorem bytesV_nth {ys : List UInt8} {k : Nat} (h : k < ys.length) : (bytesV ys)[0 + ((k : Int)).toNat * 1]? = some (.int .u8 (ys[k].toNat : Int)) := by
  rw [Nat.zero_add, Nat.mul_one, Int.toNat_natCast]
  exact bytesV_at h
section laws
variable (W0 : World)
theorem reads_walk (a : Option Addr) (len cap : Nat) (zs : List Int) (x : UInt8) (hl : len = zs.length) (hm : zs.length ≤ 9223372036854775807) (hwf : ∀ n ∈ zs, -9223372036854775808 ≤ n ∧ n ≤ 9223372036854775807) (hr : ∀ L, Rd W0 L a (zs.map (Value.int .i64))) : FnS Try.prog W0 5 #[.slice a len cap, .int .u8 (x.toNat : Int)] [] (fun e _ => e = .returned (.bool true)) := by
  subst hl
  refine FnS.of (args := [.slice a zs.length cap, .int .u8 (x.toNat : Int)]) Try.func5 rfl rfl ?_
  refine C.seq ?_
  refine C.region ?_
  refine G.assignB rfl trivial rfl rfl rfl ?_
  refine G.nil ?_
  refine C.seq ?_
  refine C.region ?_
  refine G.call E9 rfl rfl trivial rfl rfl (sbegun_spec W0 _) rfl ?_
  rintro e L2 ⟨rfl, rfl⟩
  refine G.assignB rfl trivial rfl rfl rfl ?_
  refine G.nil ?_
  refine C.seq ?_
  refine C.seq ?_
  refine C.region ?_
  refine G.moveB rfl trivial rfl rfl rfl ?_
  first | refine G.notD rfl trivial rfl rfl rfl ?_ | refine G.not rfl trivial rfl rfl rfl ?_
  refine G.nil ?_
  refine C.condF rfl ?_
  refine C.skip ?_
  refine C.seq ?_
  refine C.region ?_
  refine G.buildL (cs := List.replicate 96 nilS ++ [.int .i64 0]) rfl trivial rfl rfl Try.underlying28 I28 B28 rfl rfl ?_
  refine G.boxG rfl trivial rfl rfl rfl ?_
  intro b19
  refine G.assignP rfl trivial rfl rfl rfl ?_
  refine G.nil ?_
  refine C.seq ?_
  refine C.drawn mixed ([]) [] (fun _ h => memNone h) ?_
  refine GA.pure (i := 0) (fun _ _ _ _ _ h => h) rfl (by kernel_rfl) trivial rfl rfl (Y.moveP rfl rfl) (#[true, false, false, false, false, false, false, false]) (by kernel_rfl) ?_
  refine GA.pure (i := 1) (fun _ _ _ _ _ h => h) rfl (by kernel_rfl) trivial rfl rfl (Y.moveI rfl rfl) (#[true, true, false, false, false, false, false, false]) (by kernel_rfl) ?_
  first | refine GA.pure (i := 4) (fun _ _ _ _ _ h => h) rfl (by kernel_rfl) trivial rfl rfl (Y.nilCheckP rfl rfl) (#[true, true, false, false, true, false, false, false]) (by kernel_rfl) ?_ | refine GA.pure (i := 4) (fun _ _ _ _ _ h => h) rfl (by kernel_rfl) trivial rfl rfl (Y.nilCheckF rfl rfl) (#[true, true, false, false, true, false, false, false]) (by kernel_rfl) ?_
  refine GA.pure (i := 5) (fun _ _ _ _ _ h => h) rfl (by kernel_rfl) trivial rfl rfl (Y.fieldAddr rfl Try.underlying28 rfl I26 rfl rfl) (#[true, true, false, false, true, true, false, false]) (by kernel_rfl) ?_
  refine GA.one (i := 2) rfl (by kernel_rfl) (#[true, true, true, false, true, true, false, false]) (by kernel_rfl) ?_
  refine G.buildSliceL (cs := [.int .u8 (x.toNat : Int)]) (zs := [(.int .u8 0)]) rfl trivial rfl rfl Try.underlying22 I5 rfl (by kernel_rfl) rfl rfl ?_
  intro b22
  refine G.nil ?_
  refine ⟨fun _ _ h => memNone h, ?_⟩
  refine GA.one (i := 3) rfl (by kernel_rfl) (#[true, true, true, true, true, true, false, false]) (by kernel_rfl) ?_
  refine G.call E10 rfl rfl trivial rfl rfl (of_spec W0 _ (some ⟨b22, 0, none⟩) 1 [x] (fun s => Rd.row0 (.next .here))) rfl ?_
  rintro e L2 ⟨bp, rfl, rfl⟩
  refine G.nil ?_
  refine ⟨fun _ _ h => memNone h, ?_⟩
  refine GA.pure (i := 6) (fun _ _ _ _ _ h => h) rfl (by kernel_rfl) trivial rfl rfl (Y.indexAddrArr rfl Try.underlying26 I22 rfl rfl (by omega)) (#[true, true, true, true, true, true, true, false]) (by kernel_rfl) ?_
  refine GA.one (i := 7) rfl (by kernel_rfl) (#[true, true, true, true, true, true, true, true]) (by kernel_rfl) ?_
  refine G.store (v := .slice (some ⟨bp, 0, none⟩) 256 256) (.next (.next .here)) rfl trivial rfl I22 rfl rfl rfl (by simp) _ rfl ?_
  refine G.less (L' := bookSeg b19 (psB 4 bp x) 0 :: []) (fun _ h => mem_psB (by decide) (by have h2 := h.skip1; simpa using h2)) ?_
  refine G.nil ?_
  refine ⟨fun _ _ h => memNone h, ?_⟩
  refine GA.done (by kernel_rfl) ?_
  refine C.seq ?_
  refine C.region ?_
  refine G.moveP rfl trivial rfl rfl rfl ?_
  refine G.makeInterface rfl trivial rfl rfl Try.underlying25 rfl ?_
  refine G.call E11 rfl rfl trivial rfl rfl (snew_spec W0 [] (.iface 25 (ptr b19)) _ _ (.some (book_src W0 b19 (psB_is b19 4 bp x)))) rfl ?_
  rintro e L2 ⟨bs, s1, h1, rfl, rfl⟩
  refine G.assignP rfl trivial rfl rfl rfl ?_
  refine G.nil ?_
  refine C.seq ?_
  refine C.seq ?_
  refine C.region ?_
  refine G.assignI rfl trivial rfl rfl rfl ?_
  refine G.nil ?_
  refine C.block ?_
  refine C.loop (fun m F D' L' => ∃ (i : Nat), m = zs.length - i + 0 ∧ i ≤ zs.length ∧ F 0 = .slice a zs.length cap ∧ F 1 = .int .u8 (x.toNat : Int) ∧ F 7 = ptr bs ∧ F 8 = .int .i64 (i : Int) ∧ D' = [] ∧ s1 :: [] = L') ⟨_, ⟨0, rfl, Nat.zero_le _, rfl, rfl, rfl, rfl, rfl, rfl⟩⟩ ?_
  rintro m F D' L' ⟨i, rfl, hi, h0, h1', h7, h8, rfl, rfl⟩
  refine C.fix (d := 0) h0 ?_
  refine C.fix (d := 1) h1' ?_
  refine C.fix (d := 7) h7 ?_
  refine C.fix (d := 8) h8 ?_
  refine C.seq ?_
  refine C.seq ?_
  refine C.region ?_
  refine G.moveI rfl trivial rfl rfl rfl ?_
  refine G.moveS rfl trivial rfl rfl rfl ?_
  refine G.lenSlice rfl trivial rfl rfl Try.underlying46 rfl ?_
  refine G.bin rfl trivial rfl rfl rfl rfl rfl ?_
  refine G.moveB rfl trivial rfl rfl rfl ?_
  refine G.fork (t := 34) _ rfl ?_ ?_
  · intro hg34
    refine G.moveI rfl ⟨_, rfl, rfl, rfl⟩ rfl rfl rfl ?_
    refine G.bin rfl ⟨_, rfl, rfl, rfl⟩ rfl rfl rfl rfl rfl ?_
    first | refine G.pickT rfl trivial rfl rfl rfl rfl ?_ | refine G.pickF rfl trivial rfl rfl rfl rfl ?_
    refine G.nil ?_
    refine C.cond _ rfl ?_ ?_
    · intro hc1
      have hlt : i < zs.length := by have h := hg34; omega
      obtain ⟨p, o, hae, _⟩ := (hr []).some_ (by simp; omega)
      subst hae
      have hwz := hwf zs[i] (List.getElem_mem hlt)
      refine C.skip ?_
      refine C.seq ?_
      refine C.block ?_
      refine C.seq ?_
      refine C.region ?_
      refine G.moveP rfl trivial rfl rfl rfl ?_
      refine G.moveS rfl trivial rfl rfl rfl ?_
      refine G.moveI rfl trivial rfl rfl rfl ?_
      refine G.indexAddr rfl trivial rfl rfl Try.underlying46 I3 rfl rfl (by omega) ?_
      refine G.load rfl trivial rfl rfl Try.underlying3 rfl rfl (fun w hmm => Rd.ints_at hr hlt w hmm) ?_
      by_cases hin : 0 ≤ zs[i] ∧ zs[i] ≤ 95
      ·
        obtain ⟨ys, hyl, hyR⟩ : ∃ ys : List UInt8, ys.length = 256 ∧ shR (fun _ => none) (bookR (psB 4 bp x) 0) zs[i] = .ok ys := by
          rcases reads_R bp x zs[i] with ⟨_, _, h⟩ | ⟨h, _⟩
          · exact h
          · exact absurd hin h
        refine G.call E13 rfl rfl trivial rfl rfl (spage_val W0 bs [] h1 zs[i] hwz ys hyR 256 hyl) rfl ?_
        rintro e L2 ⟨a46, c46, s46, hv46, rfl, rfl⟩
        obtain ⟨bo, co, ko, hoe, rfl, _, _⟩ := hv46.block (by decide)
        cases hoe
        refine G.moveU rfl trivial rfl rfl rfl ?_
        refine G.extractL rfl trivial rfl rfl rfl rfl ?_
        refine G.extractL rfl trivial rfl rfl rfl rfl ?_
        refine G.assignS rfl trivial rfl rfl rfl ?_
        refine G.assignI rfl trivial rfl rfl rfl ?_
        refine G.nil ?_
        refine C.seq ?_
        refine C.region ?_
        refine G.moveS rfl trivial rfl rfl rfl ?_
        refine G.moveI rfl trivial rfl rfl rfl ?_
        refine G.indexAddr rfl trivial rfl rfl Try.underlying46 I3 rfl rfl (by omega) ?_
        refine G.load rfl trivial rfl rfl Try.underlying3 rfl rfl (fun w hmm => Rd.ints_at hr hlt w hmm) ?_
        refine G.bin rfl trivial rfl rfl rfl rfl rfl ?_
        refine G.moveB rfl trivial rfl rfl rfl ?_
        refine G.yes (t := 54) rfl (by omega) ?_
        refine G.moveS rfl ⟨_, rfl, rfl, rfl⟩ rfl rfl rfl ?_
        refine G.moveI rfl ⟨_, rfl, rfl, rfl⟩ rfl rfl rfl ?_
        refine G.indexAddr rfl ⟨_, rfl, rfl, rfl⟩ rfl rfl Try.underlying46 I3 rfl rfl (by omega) ?_
        refine G.load rfl ⟨_, rfl, rfl, rfl⟩ rfl rfl Try.underlying3 rfl rfl (fun w hmm => Rd.ints_at hr hlt w hmm) ?_
        refine G.bin rfl ⟨_, rfl, rfl, rfl⟩ rfl rfl rfl rfl rfl ?_
        first | refine G.pickT rfl trivial rfl rfl rfl rfl ?_ | refine G.pickF rfl trivial rfl rfl rfl rfl ?_
        refine G.fix (d := 60) (v := .bool true) (by show Value.bool (decide _) = _; rw [decide_eq_true hin.2]) ?_
        refine G.assignB rfl trivial rfl rfl rfl ?_
        refine G.nil ?_
        refine C.seq ?_
        refine C.seq ?_
        refine C.region ?_
        refine G.moveI rfl trivial rfl rfl rfl ?_
        refine G.bin rfl trivial rfl rfl rfl rfl rfl ?_
        refine G.moveB rfl trivial rfl rfl rfl ?_
        refine G.boolNe rfl trivial rfl rfl Try.underlying4 rfl rfl ?_
        refine G.fix (d := 64) (v := .bool false) rfl ?_
        refine G.moveB rfl trivial rfl rfl rfl ?_
        refine G.moveB rfl ⟨_, rfl, rfl, rfl⟩ rfl rfl rfl ?_
        refine G.moveB rfl ⟨_, rfl, rfl, rfl⟩ rfl rfl rfl ?_
        refine G.moveS rfl ⟨_, rfl, rfl, rfl⟩ rfl rfl rfl ?_
        refine G.lenSlice rfl ⟨_, rfl, rfl, rfl⟩ rfl rfl Try.underlying22 rfl ?_
        refine G.bin rfl ⟨_, rfl, rfl, rfl⟩ rfl rfl rfl rfl rfl ?_
        first | refine G.pickT rfl ⟨_, rfl, rfl, rfl⟩ rfl rfl rfl rfl ?_ | refine G.pickF rfl ⟨_, rfl, rfl, rfl⟩ rfl rfl rfl rfl ?_
        first | refine G.pickT rfl trivial rfl rfl rfl rfl ?_ | refine G.pickF rfl trivial rfl rfl rfl rfl ?_
        refine G.nil ?_
        refine C.no rfl (by decide) ?_
        refine C.skip ?_
        refine C.seq ?_
        refine C.region ?_
        refine G.moveS rfl trivial rfl rfl rfl ?_
        refine G.lenSlice rfl trivial rfl rfl Try.underlying22 rfl ?_
        refine G.moveI rfl trivial rfl rfl rfl ?_
        refine G.nil ?_
        refine C.block ?_
        refine C.loop (fun m F D' L' => ∃ (k : Nat) (ys : List UInt8), m = 256 - k + 0 ∧ k ≤ 256 ∧ ys.length = 256 ∧ F 0 = .slice (some ⟨p, o, none⟩) zs.length cap ∧ F 1 = .int .u8 (x.toNat : Int) ∧ F 7 = ptr bs ∧ F 8 = .int .i64 (i : Int) ∧ F 9 = .slice (some ⟨bo, 0, none⟩) 256 c46 ∧ F 74 = .int .i64 ((256 : Nat) : Int) ∧ F 75 = .int .i64 (k : Int) ∧ D' = [] ∧ [(bo, .row (bytesV ys) 5 ko)] :: s1 :: [] = L') ⟨_, ⟨0, ys, rfl, by omega, hyl, rfl, rfl, rfl, rfl, rfl, rfl, rfl, rfl, rfl⟩⟩ ?_
        rintro m F D' L' ⟨k, ys, rfl, hk, hyl, h0, h1', h7, h8, h9, h74, h75, rfl, rfl⟩
        refine C.fix (d := 0) h0 ?_
        refine C.fix (d := 1) h1' ?_
        refine C.fix (d := 7) h7 ?_
        refine C.fix (d := 8) h8 ?_
        refine C.fix (d := 9) h9 ?_
        refine C.fix (d := 74) h74 ?_
        refine C.fix (d := 75) h75 ?_
        refine C.seq ?_
        refine C.region ?_
        refine G.bin rfl trivial rfl rfl rfl rfl rfl ?_
        refine G.nil ?_
        refine C.seq ?_
        refine C.cond _ rfl ?_ ?_
        · intro hc3
          have hkl : k < ys.length := by omega
          refine C.skip ?_
          refine C.seq ?_
          refine C.block ?_
          refine C.seq ?_
          refine C.region ?_
          refine G.moveI rfl trivial rfl rfl rfl ?_
          refine G.assignI rfl trivial rfl rfl rfl ?_
          refine G.nil ?_
          refine C.region ?_
          refine G.moveS rfl trivial rfl rfl rfl ?_
          refine G.moveI rfl trivial rfl rfl rfl ?_
          refine G.indexAddr rfl trivial rfl rfl Try.underlying22 I5 rfl rfl (by omega) ?_
          refine G.loadAt (v := .int .u8 (ys[k].toNat : Int)) .here rfl trivial rfl rfl Try.underlying5 rfl rfl (bytesV_nth hkl) ?_
          refine G.bin rfl trivial rfl rfl rfl rfl rfl ?_
          refine G.byte (d := 82) ⟨_, rfl⟩ ?_
          intro c82
          refine G.indexAddr rfl trivial rfl rfl Try.underlying22 I5 rfl rfl (by omega) ?_
          refine G.store (v := .int _ _) (by first | exact .here | exact .next .here | exact .next (.next .here) | exact .next (.next (.next .here)) | exact .next (.next (.next (.next .here))) | exact .next (.next (.next (.next (.next .here)))) | exact .next (.next (.next (.next (.next (.next .here))))) | exact .next (.next (.next (.next (.next (.next (.next .here)))))) | exact .in1 | exact .next .in1 | exact .next (.next .in1) | exact .next (.next (.next .in1)) | exact .next (.next (.next (.next .in1))) | exact .in2 | exact .next .in2 | exact .next (.next .in2) | exact .next (.next (.next .in2)) | exact .next (.next (.next (.next .in2))) | exact .app .here | exact .app (.next .here) | exact .app (.next (.next .here)) | exact .app (.next (.next (.next .here))) | exact .app (.next (.next (.next (.next .here)))) | exact .app (.next (.next (.next (.next (.next .here))))) | exact .app (.next (.next (.next (.next (.next (.next .here)))))) | exact .app (.next (.next (.next (.next (.next (.next (.next .here))))))) | exact .app .in1 | exact .app .in2 | exact .app (.next .in1) | exact .next (.app .in1) | exact .next (.next (.app .in1)) | exact .next (.app .here) | exact .next (.next (.app .here)) | exact .next (.next (.next (.app .here))) | exact .next (.next (.next (.next (.app .here))))) rfl trivial rfl I5 rfl rfl rfl (by rw [bytesV_length]; simp; omega) _ (by first | (simp only [List.set_cons_succ, List.set_cons_zero]; done) | (simp only [List.set_cons_succ, List.set_cons_zero]; exact rfl) | exact rfl) ?_
          rw [bytesV_put]
          refine G.nil ?_
          refine C.region ?_
          refine G.addN (j := 1) rfl trivial rfl rfl rfl rfl (by omega) ?_
          refine G.moveI rfl trivial rfl rfl rfl ?_
          refine G.nil ?_
          exact ⟨256 - (k + 1) + 0, by omega, k + 1, _, rfl, by omega, by rw [List.length_set]; exact hyl, rfl, rfl, rfl, rfl, rfl, rfl, rfl, rfl, rfl⟩
        · intro hc3
          refine C.exit ?_
          refine C.region ?_
          refine G.less (L' := s1 :: []) (fun _ h => h.fewer (by simp)) ?_
          refine G.moveI rfl trivial rfl rfl rfl ?_
          refine G.addN (j := 1) rfl trivial rfl rfl rfl rfl (by omega) ?_
          refine G.assignI rfl trivial rfl rfl rfl ?_
          refine G.nil ?_
          exact ⟨zs.length - (i + 1) + 0, by omega, i + 1, rfl, by omega, rfl, rfl, rfl, rfl, rfl, rfl⟩
      ·
        have hyR : shR (fun _ => none) (bookR (psB 4 bp x) 0) zs[i] = .error 3 := by
          rcases reads_R bp x zs[i] with ⟨h, h2, _⟩ | ⟨_, h⟩
          · exact absurd ⟨h, h2⟩ hin
          · exact h
        refine G.call E13 rfl rfl trivial rfl rfl (spage_bad W0 bs [] h1 zs[i] hwz 3 hyR) rfl ?_
        rintro e L2 ⟨rfl, rfl⟩
        refine G.moveU rfl trivial rfl rfl rfl ?_
        refine G.extractL rfl trivial rfl rfl rfl rfl ?_
        refine G.extractL rfl trivial rfl rfl rfl rfl ?_
        refine G.assignS rfl trivial rfl rfl rfl ?_
        refine G.assignI rfl trivial rfl rfl rfl ?_
        refine G.nil ?_
        refine C.seq ?_
        refine C.region ?_
        refine G.moveS rfl trivial rfl rfl rfl ?_
        refine G.moveI rfl trivial rfl rfl rfl ?_
        refine G.indexAddr rfl trivial rfl rfl Try.underlying46 I3 rfl rfl (by omega) ?_
        refine G.load rfl trivial rfl rfl Try.underlying3 rfl rfl (fun w hmm => Rd.ints_at hr hlt w hmm) ?_
        refine G.bin rfl trivial rfl rfl rfl rfl rfl ?_
        refine G.moveB rfl trivial rfl rfl rfl ?_
        refine G.fork (t := 54) _ rfl ?_ ?_
        · intro hg54
          refine G.moveS rfl ⟨_, rfl, rfl, rfl⟩ rfl rfl rfl ?_
          refine G.moveI rfl ⟨_, rfl, rfl, rfl⟩ rfl rfl rfl ?_
          refine G.indexAddr rfl ⟨_, rfl, rfl, rfl⟩ rfl rfl Try.underlying46 I3 rfl rfl (by omega) ?_
          refine G.load rfl ⟨_, rfl, rfl, rfl⟩ rfl rfl Try.underlying3 rfl rfl (fun w hmm => Rd.ints_at hr hlt w hmm) ?_
          refine G.bin rfl ⟨_, rfl, rfl, rfl⟩ rfl rfl rfl rfl rfl ?_
          first | refine G.pickT rfl trivial rfl rfl rfl rfl ?_ | refine G.pickF rfl trivial rfl rfl rfl rfl ?_
          refine G.fix (d := 60) (v := .bool false) (by show Value.bool (decide _) = _; rw [decide_eq_false (by omega)]) ?_
          refine G.assignB rfl trivial rfl rfl rfl ?_
          refine G.nil ?_
          refine C.seq ?_
          refine C.seq ?_
          refine C.region ?_
          refine G.moveI rfl trivial rfl rfl rfl ?_
          refine G.bin rfl trivial rfl rfl rfl rfl rfl ?_
          refine G.moveB rfl trivial rfl rfl rfl ?_
          refine G.boolNe rfl trivial rfl rfl Try.underlying4 rfl rfl ?_
          refine G.fix (d := 64) (v := .bool false) rfl ?_
          refine G.moveB rfl trivial rfl rfl rfl ?_
          refine G.moveB rfl ⟨_, rfl, rfl, rfl⟩ rfl rfl rfl ?_
          refine G.moveB rfl ⟨_, rfl, rfl, rfl⟩ rfl rfl rfl ?_
          refine G.skip rfl rfl rfl rfl rfl rfl ?_
          refine G.skip rfl rfl rfl rfl rfl rfl ?_
          refine G.skip rfl rfl rfl rfl rfl rfl ?_
          first | refine G.pickT rfl ⟨_, rfl, rfl, rfl⟩ rfl rfl rfl rfl ?_ | refine G.pickF rfl ⟨_, rfl, rfl, rfl⟩ rfl rfl rfl rfl ?_
          first | refine G.pickT rfl trivial rfl rfl rfl rfl ?_ | refine G.pickF rfl trivial rfl rfl rfl rfl ?_
          refine G.nil ?_
          refine C.condF rfl ?_
          refine C.skip ?_
          refine C.seq ?_
          refine C.region ?_
          refine G.moveS rfl trivial rfl rfl rfl ?_
          refine G.lenSlice rfl trivial rfl rfl Try.underlying22 rfl ?_
          refine G.moveI rfl trivial rfl rfl rfl ?_
          refine G.nil ?_
          refine C.block ?_
          refine C.loop (fun m F D' L' => m = 0 ∧ F 0 = .slice (some ⟨p, o, none⟩) zs.length cap ∧ F 1 = .int .u8 (x.toNat : Int) ∧ F 7 = ptr bs ∧ F 8 = .int .i64 (i : Int) ∧ F 74 = .int .i64 0 ∧ F 75 = .int .i64 0 ∧ D' = [] ∧ s1 :: [] = L') ⟨_, rfl, rfl, rfl, rfl, rfl, rfl, rfl, rfl, rfl⟩ ?_
          rintro m F D' L' ⟨rfl, h0, h1', h7, h8, h74, h75, rfl, rfl⟩
          refine C.fix (d := 0) h0 ?_
          refine C.fix (d := 1) h1' ?_
          refine C.fix (d := 7) h7 ?_
          refine C.fix (d := 8) h8 ?_
          refine C.fix (d := 74) h74 ?_
          refine C.fix (d := 75) h75 ?_
          refine C.seq ?_
          refine C.region ?_
          refine G.bin rfl trivial rfl rfl rfl rfl rfl ?_
          refine G.nil ?_
          refine C.seq ?_
          refine C.no rfl (by decide) ?_
          refine C.exit ?_
          refine C.region ?_
          refine G.less (L' := s1 :: []) (fun _ h => h.fewer (by simp)) ?_
          refine G.moveI rfl trivial rfl rfl rfl ?_
          refine G.addN (j := 1) rfl trivial rfl rfl rfl rfl (by omega) ?_
          refine G.assignI rfl trivial rfl rfl rfl ?_
          refine G.nil ?_
          exact ⟨zs.length - (i + 1) + 0, by omega, i + 1, rfl, by omega, rfl, rfl, rfl, rfl, rfl, rfl⟩
        · intro hg54
          refine G.skip rfl rfl rfl rfl rfl rfl ?_
          refine G.skip rfl rfl rfl rfl rfl rfl ?_
          refine G.skip rfl rfl rfl rfl rfl rfl ?_
          refine G.skip rfl rfl rfl rfl rfl rfl ?_
          refine G.skip rfl rfl rfl rfl rfl rfl ?_
          first | refine G.pickT rfl trivial rfl rfl rfl rfl ?_ | refine G.pickF rfl trivial rfl rfl rfl rfl ?_
          refine G.assignB rfl trivial rfl rfl rfl ?_
          refine G.nil ?_
          refine C.seq ?_
          refine C.seq ?_
          refine C.region ?_
          refine G.moveI rfl trivial rfl rfl rfl ?_
          refine G.bin rfl trivial rfl rfl rfl rfl rfl ?_
          refine G.moveB rfl trivial rfl rfl rfl ?_
          refine G.boolNe rfl trivial rfl rfl Try.underlying4 rfl rfl ?_
          refine G.fix (d := 64) (v := .bool false) rfl ?_
          refine G.moveB rfl trivial rfl rfl rfl ?_
          refine G.moveB rfl ⟨_, rfl, rfl, rfl⟩ rfl rfl rfl ?_
          refine G.moveB rfl ⟨_, rfl, rfl, rfl⟩ rfl rfl rfl ?_
          refine G.skip rfl rfl rfl rfl rfl rfl ?_
          refine G.skip rfl rfl rfl rfl rfl rfl ?_
          refine G.skip rfl rfl rfl rfl rfl rfl ?_
          first | refine G.pickT rfl ⟨_, rfl, rfl, rfl⟩ rfl rfl rfl rfl ?_ | refine G.pickF rfl ⟨_, rfl, rfl, rfl⟩ rfl rfl rfl rfl ?_
          first | refine G.pickT rfl trivial rfl rfl rfl rfl ?_ | refine G.pickF rfl trivial rfl rfl rfl rfl ?_
          refine G.nil ?_
          refine C.condF rfl ?_
          refine C.skip ?_
          refine C.seq ?_
          refine C.region ?_
          refine G.moveS rfl trivial rfl rfl rfl ?_
          refine G.lenSlice rfl trivial rfl rfl Try.underlying22 rfl ?_
          refine G.moveI rfl trivial rfl rfl rfl ?_
          refine G.nil ?_
          refine C.block ?_
          refine C.loop (fun m F D' L' => m = 0 ∧ F 0 = .slice (some ⟨p, o, none⟩) zs.length cap ∧ F 1 = .int .u8 (x.toNat : Int) ∧ F 7 = ptr bs ∧ F 8 = .int .i64 (i : Int) ∧ F 74 = .int .i64 0 ∧ F 75 = .int .i64 0 ∧ D' = [] ∧ s1 :: [] = L') ⟨_, rfl, rfl, rfl, rfl, rfl, rfl, rfl, rfl, rfl⟩ ?_
          rintro m F D' L' ⟨rfl, h0, h1', h7, h8, h74, h75, rfl, rfl⟩
          refine C.fix (d := 0) h0 ?_
          refine C.fix (d := 1) h1' ?_
          refine C.fix (d := 7) h7 ?_
          refine C.fix (d := 8) h8 ?_
          refine C.fix (d := 74) h74 ?_
          refine C.fix (d := 75) h75 ?_
          refine C.seq ?_
          refine C.region ?_
          refine G.bin rfl trivial rfl rfl rfl rfl rfl ?_
          refine G.nil ?_
          refine C.seq ?_
          refine C.no rfl (by decide) ?_
          refine C.exit ?_
          refine C.region ?_
          refine G.less (L' := s1 :: []) (fun _ h => h.fewer (by simp)) ?_
          refine G.moveI rfl trivial rfl rfl rfl ?_
          refine G.addN (j := 1) rfl trivial rfl rfl rfl rfl (by omega) ?_
          refine G.assignI rfl trivial rfl rfl rfl ?_
          refine G.nil ?_
          exact ⟨zs.length - (i + 1) + 0, by omega, i + 1, rfl, by omega, rfl, rfl, rfl, rfl, rfl, rfl⟩
    · intro hc1
      refine C.exit ?_
      refine C.seq ?_
      refine C.region ?_
      refine G.moveP rfl trivial rfl rfl rfl ?_
      refine G.call E13 rfl rfl trivial rfl rfl (spage_val W0 bs [] h1 4 (by decide) (ofB [x]) (reads_4 bp x) 256 (ofB_length _)) rfl ?_
      rintro e L2 ⟨a87, c87, s87, hv87, rfl, rfl⟩
      obtain ⟨bo3, co3, ko3, hoe3, rfl, _, _⟩ := hv87.block (by decide)
      cases hoe3
      refine G.moveU rfl trivial rfl rfl rfl ?_
      refine G.extractL rfl trivial rfl rfl rfl rfl ?_
      refine G.extractL rfl trivial rfl rfl rfl rfl ?_
      refine G.assignS rfl trivial rfl rfl rfl ?_
      refine G.assignI rfl trivial rfl rfl rfl ?_
      refine G.nil ?_
      refine C.seq ?_
      refine C.region ?_
      refine G.moveP rfl trivial rfl rfl rfl ?_
      refine G.call E16 rfl rfl trivial rfl rfl (FnS.perm (schanges_val W0 bs _ h1 [] (chL_nil fun j hj => chg1_none rfl) 0 rfl) P2) rfl ?_
      rintro e L2 ⟨a91, c91, s3, s4, hi91, rfl, rfl⟩
      refine G.lenSlice rfl trivial rfl rfl Try.underlying38 rfl ?_
      refine G.bin rfl trivial rfl rfl rfl rfl rfl ?_
      refine G.moveB rfl trivial rfl rfl rfl ?_
      refine G.moveI rfl ⟨_, rfl, rfl, rfl⟩ rfl rfl rfl ?_
      refine G.bin rfl ⟨_, rfl, rfl, rfl⟩ rfl rfl rfl rfl rfl ?_
      first | refine G.pickT rfl trivial rfl rfl rfl rfl ?_ | refine G.pickF rfl trivial rfl rfl rfl rfl ?_
      refine G.moveB rfl trivial rfl rfl rfl ?_
      refine G.moveS rfl ⟨_, rfl, rfl, rfl⟩ rfl rfl rfl ?_
      refine G.indexAddr rfl ⟨_, rfl, rfl, rfl⟩ rfl rfl Try.underlying22 I5 rfl rfl (by decide) ?_
      refine G.loadAt (v := .int .u8 (x.toNat : Int)) (.next (.next (.next .here))) rfl ⟨_, rfl, rfl, rfl⟩ rfl rfl Try.underlying5 rfl rfl (bytesV_head (ofB_head x [])) ?_
      refine G.moveI rfl ⟨_, rfl, rfl, rfl⟩ rfl rfl rfl ?_
      refine G.bin rfl ⟨_, rfl, rfl, rfl⟩ rfl rfl rfl rfl rfl ?_
      first | refine G.pickT rfl trivial rfl rfl rfl rfl ?_ | refine G.pickF rfl trivial rfl rfl rfl rfl ?_
      refine G.assignB rfl trivial rfl rfl rfl ?_
      refine G.nil ?_
      refine C.ret ?_
      -- end g34Tc1F
      exact ⟨rfl, _, Res.of (rs := [.tmp 4]) rfl rfl, by show Ending.returned (Value.bool (decide _)) = _; simp⟩
  · intro hg34
    refine G.skip rfl rfl rfl rfl rfl rfl ?_
    refine G.skip rfl rfl rfl rfl rfl rfl ?_
    first | refine G.pickT rfl trivial rfl rfl rfl rfl ?_ | refine G.pickF rfl trivial rfl rfl rfl rfl ?_
    refine G.nil ?_
    refine C.condF rfl ?_
    refine C.exit ?_
    refine C.seq ?_
    refine C.region ?_
    refine G.moveP rfl trivial rfl rfl rfl ?_
    refine G.call E13 rfl rfl trivial rfl rfl (spage_val W0 bs [] h1 4 (by decide) (ofB [x]) (reads_4 bp x) 256 (ofB_length _)) rfl ?_
    rintro e L2 ⟨a87, c87, s87, hv87, rfl, rfl⟩
    obtain ⟨bo3, co3, ko3, hoe3, rfl, _, _⟩ := hv87.block (by decide)
    cases hoe3
    refine G.moveU rfl trivial rfl rfl rfl ?_
    refine G.extractL rfl trivial rfl rfl rfl rfl ?_
    refine G.extractL rfl trivial rfl rfl rfl rfl ?_
    refine G.assignS rfl trivial rfl rfl rfl ?_
    refine G.assignI rfl trivial rfl rfl rfl ?_
    refine G.nil ?_
    refine C.seq ?_
    refine C.region ?_
    refine G.moveP rfl trivial rfl rfl rfl ?_
    refine G.call E16 rfl rfl trivial rfl rfl (FnS.perm (schanges_val W0 bs _ h1 [] (chL_nil fun j hj => chg1_none rfl) 0 rfl) P2) rfl ?_
    rintro e L2 ⟨a91, c91, s3, s4, hi91, rfl, rfl⟩
    refine G.lenSlice rfl trivial rfl rfl Try.underlying38 rfl ?_
    refine G.bin rfl trivial rfl rfl rfl rfl rfl ?_
    refine G.moveB rfl trivial rfl rfl rfl ?_
    refine G.moveI rfl ⟨_, rfl, rfl, rfl⟩ rfl rfl rfl ?_
    refine G.bin rfl ⟨_, rfl, rfl, rfl⟩ rfl rfl rfl rfl rfl ?_
    first | refine G.pickT rfl trivial rfl rfl rfl rfl ?_ | refine G.pickF rfl trivial rfl rfl rfl rfl ?_
    refine G.moveB rfl trivial rfl rfl rfl ?_
    refine G.moveS rfl ⟨_, rfl, rfl, rfl⟩ rfl rfl rfl ?_
    refine G.indexAddr rfl ⟨_, rfl, rfl, rfl⟩ rfl rfl Try.underlying22 I5 rfl rfl (by decide) ?_
    refine G.loadAt (v := .int .u8 (x.toNat : Int)) (.next (.next (.next .here))) rfl ⟨_, rfl, rfl, rfl⟩ rfl rfl Try.underlying5 rfl rfl (bytesV_head (ofB_head x [])) ?_
    refine G.moveI rfl ⟨_, rfl, rfl, rfl⟩ rfl rfl rfl ?_
    refine G.bin rfl ⟨_, rfl, rfl, rfl⟩ rfl rfl rfl rfl rfl ?_
    first | refine G.pickT rfl trivial rfl rfl rfl rfl ?_ | refine G.pickF rfl trivial rfl rfl rfl rfl ?_
    refine G.assignB rfl trivial rfl rfl rfl ?_
    refine G.nil ?_
    refine C.ret ?_
    -- end g34F
    exact ⟨rfl, _, Res.of (rs := [.tmp 4]) rfl rfl, by show Ending.returned (Value.bool (decide _)) = _; simp⟩
end laws
end Sht
end Go.Proofs.Ytgfdghhojnmaoaa
