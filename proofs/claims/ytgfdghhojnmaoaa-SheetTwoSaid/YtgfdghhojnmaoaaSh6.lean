/-
  Sheets: SheetOwn walked.
-/
import Derived.Test.YtgfdghhojnmaoaaSh5
namespace Go.Proofs.Ytgfdghhojnmaoaa
namespace Sht
open Go Go.SL Go.RowKit

theorem one_ch (x : UInt8) : chL (setM (fun _ => none) 3 (ofB [x])) (bookR noPages 0) = if ofB [x] = zero256 then [] else [(3, ofB [x])] := by
  have hR : bookR noPages 0 3 = .ok zero256 := noPages_R (by decide) 0 (by simp)
  have hoth : ∀ j : Nat, j < 96 → j ≠ 3 → chg1 (setM (fun _ => none) 3 (ofB [x])) (bookR noPages 0) (j : Int) = none := fun j _ hj => chg1_none (by unfold setM; rw [if_neg (by omega)])
  split
  · rename_i hz
    refine chL_nil fun j hj => ?_
    by_cases e : j = 3
    · subst e; exact chg1_same (b := ofB [x]) (by simp [setM]) (by rw [hz]; exact hR)
    · exact hoth j hj e
  · rename_i hz
    exact chL_one (t := 3) (by decide) (chg1_set (by simp [setM]) hR (fun e => hz e.symm)) hoth
theorem one_R (x : UInt8) : shR (setM (fun _ => none) 3 (ofB [x])) (bookR noPages 0) 3 = .ok (ofB [x]) := by unfold shR; rw [if_neg (by decide)]; simp [setM]
section laws
variable (W0 : World)
theorem own_walk (x : UInt8) : FnS Try.prog W0 4 #[.int .u8 (x.toNat : Int)] [] (fun e _ => e = .returned (.bool true)) := by
  refine FnS.of (args := [.int .u8 (x.toNat : Int)]) Try.func4 rfl rfl ?_
  refine C.seq ?_
  refine C.region ?_
  refine G.assignB rfl trivial rfl rfl rfl ?_
  refine G.nil ?_
  refine C.seq ?_
  refine C.region ?_
  refine G.call E9 rfl rfl trivial rfl rfl (sbegun_spec W0 _) rfl ?_
  rintro e L2 ⟨rfl, rfl⟩
  refine G.assignB rfl trivial rfl rfl rfl ?_
  refine G.nil ?_
  refine C.seq ?_
  refine C.seq ?_
  refine C.region ?_
  refine G.moveB rfl trivial rfl rfl rfl ?_
  first | refine G.notD rfl trivial rfl rfl rfl ?_ | refine G.not rfl trivial rfl rfl rfl ?_
  refine G.nil ?_
  refine C.condF rfl ?_
  refine C.skip ?_
  refine C.seq ?_
  refine C.region ?_
  refine G.buildL (cs := List.replicate 96 nilS ++ [.int .i64 0]) rfl trivial rfl rfl Try.underlying28 I28 B28 rfl rfl ?_
  refine G.boxG rfl trivial rfl rfl rfl ?_
  intro b17
  refine G.makeInterface rfl trivial rfl rfl Try.underlying25 rfl ?_
  refine G.call E11 rfl rfl trivial rfl rfl (snew_spec W0 [] (.iface 25 (ptr b17)) _ _ (.some (book_src W0 b17 (book_new b17 0)))) rfl ?_
  rintro e L2 ⟨bs, s1, h1, rfl, rfl⟩
  refine G.assignP rfl trivial rfl rfl rfl ?_
  refine G.nil ?_
  refine C.seq ?_
  refine C.region ?_
  refine G.moveI rfl trivial rfl rfl rfl ?_
  refine G.buildSliceL (cs := [.int .u8 (x.toNat : Int)]) (zs := [(.int .u8 0)]) rfl trivial rfl rfl Try.underlying22 I5 rfl (by kernel_rfl) rfl rfl ?_
  intro b21
  refine G.call E10 rfl rfl trivial rfl rfl (of_spec W0 _ (some ⟨b21, 0, none⟩) 1 [x] (fun s => Rd.row0 (.next .here))) rfl ?_
  rintro e L2 ⟨bp, rfl, rfl⟩
  refine G.assignS rfl trivial rfl rfl rfl ?_
  refine G.nil ?_
  refine C.seq ?_
  refine C.region ?_
  refine G.moveP rfl trivial rfl rfl rfl ?_
  refine G.moveS rfl trivial rfl rfl rfl ?_
  refine G.call E12 rfl rfl trivial rfl rfl (FnS.perm (sset_in W0 bs ([(bp, .row (bytesV (ofB [x])) 5 256)] :: [(b21, .row [.int .u8 (x.toNat : Int)] 5 1)] :: []) h1 3 (by decide) (some ⟨bp, 0, none⟩) 256 (ofB [x]) (ofB_length _) (Rd.row0 .here)) P3) rfl ?_
  rintro e L2 ⟨s2, h2, rfl, rfl⟩
  refine G.nil ?_
  refine C.seq ?_
  refine C.region ?_
  refine G.moveS rfl trivial rfl rfl rfl ?_
  refine G.indexAddr rfl trivial rfl rfl Try.underlying22 I5 rfl rfl (by decide) ?_
  refine G.loadAt (v := .int .u8 (x.toNat : Int)) (.next .here) rfl trivial rfl rfl Try.underlying5 rfl rfl (bytesV_head (ofB_head x [])) ?_
  refine G.bin rfl trivial rfl rfl rfl rfl rfl ?_
  refine G.indexAddr rfl trivial rfl rfl Try.underlying22 I5 rfl rfl (by decide) ?_
  refine G.store (v := .int _ _) (by first | exact .here | exact .next .here | exact .next (.next .here) | exact .next (.next (.next .here)) | exact .next (.next (.next (.next .here))) | exact .next (.next (.next (.next (.next .here)))) | exact .next (.next (.next (.next (.next (.next .here))))) | exact .next (.next (.next (.next (.next (.next (.next .here)))))) | exact .in1 | exact .next .in1 | exact .next (.next .in1) | exact .next (.next (.next .in1)) | exact .next (.next (.next (.next .in1))) | exact .in2 | exact .next .in2 | exact .next (.next .in2) | exact .next (.next (.next .in2)) | exact .next (.next (.next (.next .in2))) | exact .app .here | exact .app (.next .here) | exact .app (.next (.next .here)) | exact .app (.next (.next (.next .here))) | exact .app (.next (.next (.next (.next .here)))) | exact .app (.next (.next (.next (.next (.next .here))))) | exact .app (.next (.next (.next (.next (.next (.next .here)))))) | exact .app (.next (.next (.next (.next (.next (.next (.next .here))))))) | exact .app .in1 | exact .app .in2 | exact .app (.next .in1) | exact .next (.app .in1) | exact .next (.next (.app .in1)) | exact .next (.app .here) | exact .next (.next (.app .here)) | exact .next (.next (.next (.app .here))) | exact .next (.next (.next (.next (.app .here))))) rfl trivial rfl I5 rfl rfl rfl (by rw [bytesV_length, ofB_length]; decide) _ (by first | (simp only [List.set_cons_succ, List.set_cons_zero]; done) | (simp only [List.set_cons_succ, List.set_cons_zero]; exact rfl) | exact rfl) ?_
  refine G.less (L' := s2 :: []) (fun _ h => h.fewer (by simp)) ?_
  refine G.nil ?_
  refine C.seq ?_
  refine C.region ?_
  refine G.moveP rfl trivial rfl rfl rfl ?_
  refine G.call E13 rfl rfl trivial rfl rfl (spage_val W0 bs [] h2 3 (by decide) (ofB [x]) (one_R x) 256 (ofB_length _)) rfl ?_
  rintro e L2 ⟨a33, c33, s33, hv33, rfl, rfl⟩
  obtain ⟨bo, co, ko, hoe, rfl, _, _⟩ := hv33.block (by decide)
  cases hoe
  refine G.moveU rfl trivial rfl rfl rfl ?_
  refine G.extractL rfl trivial rfl rfl rfl rfl ?_
  refine G.extractL rfl trivial rfl rfl rfl rfl ?_
  refine G.assignS rfl trivial rfl rfl rfl ?_
  refine G.assignI rfl trivial rfl rfl rfl ?_
  refine G.nil ?_
  refine C.seq ?_
  refine C.region ?_
  refine G.moveS rfl trivial rfl rfl rfl ?_
  refine G.indexAddr rfl trivial rfl rfl Try.underlying22 I5 rfl rfl (by decide) ?_
  refine G.loadAt (v := .int .u8 (x.toNat : Int)) .here rfl trivial rfl rfl Try.underlying5 rfl rfl (bytesV_head (ofB_head x [])) ?_
  refine G.bin rfl trivial rfl rfl rfl rfl rfl ?_
  refine G.indexAddr rfl trivial rfl rfl Try.underlying22 I5 rfl rfl (by decide) ?_
  refine G.store (v := .int _ _) (by first | exact .here | exact .next .here | exact .next (.next .here) | exact .next (.next (.next .here)) | exact .next (.next (.next (.next .here))) | exact .next (.next (.next (.next (.next .here)))) | exact .next (.next (.next (.next (.next (.next .here))))) | exact .next (.next (.next (.next (.next (.next (.next .here)))))) | exact .in1 | exact .next .in1 | exact .next (.next .in1) | exact .next (.next (.next .in1)) | exact .next (.next (.next (.next .in1))) | exact .in2 | exact .next .in2 | exact .next (.next .in2) | exact .next (.next (.next .in2)) | exact .next (.next (.next (.next .in2))) | exact .app .here | exact .app (.next .here) | exact .app (.next (.next .here)) | exact .app (.next (.next (.next .here))) | exact .app (.next (.next (.next (.next .here)))) | exact .app (.next (.next (.next (.next (.next .here))))) | exact .app (.next (.next (.next (.next (.next (.next .here)))))) | exact .app (.next (.next (.next (.next (.next (.next (.next .here))))))) | exact .app .in1 | exact .app .in2 | exact .app (.next .in1) | exact .next (.app .in1) | exact .next (.next (.app .in1)) | exact .next (.app .here) | exact .next (.next (.app .here)) | exact .next (.next (.next (.app .here))) | exact .next (.next (.next (.next (.app .here))))) rfl trivial rfl I5 rfl rfl rfl (by rw [bytesV_length, ofB_length]; decide) _ (by first | (simp only [List.set_cons_succ, List.set_cons_zero]; done) | (simp only [List.set_cons_succ, List.set_cons_zero]; exact rfl) | exact rfl) ?_
  refine G.less (L' := s2 :: []) (fun _ h => h.fewer (by simp)) ?_
  refine G.nil ?_
  refine C.seq ?_
  refine C.region ?_
  refine G.moveP rfl trivial rfl rfl rfl ?_
  by_cases hz : ofB [x] = zero256
  ·
    refine G.call E16 rfl rfl trivial rfl rfl (schanges_val W0 bs [] h2 [] (by rw [one_ch, if_pos hz]) 0 rfl) rfl ?_
    rintro e L2 ⟨a42, c42, s3, s4, hi42, rfl, rfl⟩
    refine G.assignS rfl trivial rfl rfl rfl ?_
    refine G.nil ?_
    refine C.seq ?_
    refine C.seq ?_
    refine C.region ?_
    refine G.assignI rfl trivial rfl rfl rfl ?_
    refine G.nil ?_
    refine C.block ?_
    refine C.loop (fun m F D' L' => m = 0 ∧ F 0 = .int .u8 (x.toNat : Int) ∧ F 4 = ptr bs ∧ F 8 = .slice a42 0 c42 ∧ F 9 = .int .i64 0 ∧ D' = [] ∧ s3 :: s4 :: s2 :: [] = L') ⟨_, rfl, rfl, rfl, rfl, rfl, rfl, rfl⟩ ?_
    rintro m F D' L' ⟨rfl, h0, h4, h8, h9, rfl, rfl⟩
    refine C.fix (d := 0) h0 ?_
    refine C.fix (d := 4) h4 ?_
    refine C.fix (d := 8) h8 ?_
    refine C.fix (d := 9) h9 ?_
    refine C.seq ?_
    refine C.seq ?_
    refine C.region ?_
    refine G.moveI rfl trivial rfl rfl rfl ?_
    refine G.moveS rfl trivial rfl rfl rfl ?_
    refine G.lenSlice rfl trivial rfl rfl Try.underlying38 rfl ?_
    refine G.bin rfl trivial rfl rfl rfl rfl rfl ?_
    refine G.nil ?_
    refine C.no rfl (by decide) ?_
    refine C.exit ?_
    refine C.seq ?_
    refine C.region ?_
    refine G.moveP rfl trivial rfl rfl rfl ?_
    refine G.less (L' := s2 :: []) (fun _ h => h.fewer (by simp)) ?_
    refine G.call E17 rfl rfl trivial rfl rfl (smust_val W0 bs [] h2 3 (by decide) (ofB [x]) (one_R x) 256 (ofB_length _)) rfl ?_
    rintro e L2 ⟨a59, c59, s59, hv59, rfl, rfl⟩
    obtain ⟨bo2, co2, ko2, hoe2, rfl, _, _⟩ := hv59.block (by decide)
    cases hoe2
    refine G.assignS rfl trivial rfl rfl rfl ?_
    refine G.nil ?_
    refine C.seq ?_
    refine C.region ?_
    refine G.moveS rfl trivial rfl rfl rfl ?_
    refine G.indexAddr rfl trivial rfl rfl Try.underlying22 I5 rfl rfl (by decide) ?_
    refine G.loadAt (v := .int .u8 (x.toNat : Int)) .here rfl trivial rfl rfl Try.underlying5 rfl rfl (bytesV_head (ofB_head x [])) ?_
    refine G.bin rfl trivial rfl rfl rfl rfl rfl ?_
    refine G.indexAddr rfl trivial rfl rfl Try.underlying22 I5 rfl rfl (by decide) ?_
    refine G.store (v := .int _ _) (by first | exact .here | exact .next .here | exact .next (.next .here) | exact .next (.next (.next .here)) | exact .next (.next (.next (.next .here))) | exact .next (.next (.next (.next (.next .here)))) | exact .next (.next (.next (.next (.next (.next .here))))) | exact .next (.next (.next (.next (.next (.next (.next .here)))))) | exact .in1 | exact .next .in1 | exact .next (.next .in1) | exact .next (.next (.next .in1)) | exact .next (.next (.next (.next .in1))) | exact .in2 | exact .next .in2 | exact .next (.next .in2) | exact .next (.next (.next .in2)) | exact .next (.next (.next (.next .in2))) | exact .app .here | exact .app (.next .here) | exact .app (.next (.next .here)) | exact .app (.next (.next (.next .here))) | exact .app (.next (.next (.next (.next .here)))) | exact .app (.next (.next (.next (.next (.next .here))))) | exact .app (.next (.next (.next (.next (.next (.next .here)))))) | exact .app (.next (.next (.next (.next (.next (.next (.next .here))))))) | exact .app .in1 | exact .app .in2 | exact .app (.next .in1) | exact .next (.app .in1) | exact .next (.next (.app .in1)) | exact .next (.app .here) | exact .next (.next (.app .here)) | exact .next (.next (.next (.app .here))) | exact .next (.next (.next (.next (.app .here))))) rfl trivial rfl I5 rfl rfl rfl (by rw [bytesV_length, ofB_length]; decide) _ (by first | (simp only [List.set_cons_succ, List.set_cons_zero]; done) | (simp only [List.set_cons_succ, List.set_cons_zero]; exact rfl) | exact rfl) ?_
    refine G.less (L' := s2 :: []) (fun _ h => h.fewer (by simp)) ?_
    refine G.nil ?_
    refine C.seq ?_
    refine C.region ?_
    refine G.moveP rfl trivial rfl rfl rfl ?_
    refine G.call E13 rfl rfl trivial rfl rfl (spage_val W0 bs [] h2 3 (by decide) (ofB [x]) (one_R x) 256 (ofB_length _)) rfl ?_
    rintro e L2 ⟨a67, c67, s67, hv67, rfl, rfl⟩
    obtain ⟨bo3, co3, ko3, hoe3, rfl, _, _⟩ := hv67.block (by decide)
    cases hoe3
    refine G.moveU rfl trivial rfl rfl rfl ?_
    refine G.extractL rfl trivial rfl rfl rfl rfl ?_
    refine G.extractL rfl trivial rfl rfl rfl rfl ?_
    refine G.assignS rfl trivial rfl rfl rfl ?_
    refine G.assignI rfl trivial rfl rfl rfl ?_
    refine G.nil ?_
    refine C.seq ?_
    refine C.region ?_
    refine G.moveI rfl trivial rfl rfl rfl ?_
    refine G.bin rfl trivial rfl rfl rfl rfl rfl ?_
    refine G.moveB rfl trivial rfl rfl rfl ?_
    refine G.moveS rfl ⟨_, rfl, rfl, rfl⟩ rfl rfl rfl ?_
    refine G.indexAddr rfl ⟨_, rfl, rfl, rfl⟩ rfl rfl Try.underlying22 I5 rfl rfl (by decide) ?_
    refine G.loadAt (v := .int .u8 (x.toNat : Int)) .here rfl ⟨_, rfl, rfl, rfl⟩ rfl rfl Try.underlying5 rfl rfl (bytesV_head (ofB_head x [])) ?_
    refine G.moveI rfl ⟨_, rfl, rfl, rfl⟩ rfl rfl rfl ?_
    refine G.bin rfl ⟨_, rfl, rfl, rfl⟩ rfl rfl rfl rfl rfl ?_
    first | refine G.pickT rfl trivial rfl rfl rfl rfl ?_ | refine G.pickF rfl trivial rfl rfl rfl rfl ?_
    refine G.assignB rfl trivial rfl rfl rfl ?_
    refine G.nil ?_
    refine C.ret ?_
    -- end x42T
    exact ⟨rfl, _, Res.of (rs := [.tmp 2]) rfl rfl, by show Ending.returned (Value.bool (decide _)) = _; simp⟩
  ·
    refine G.call E16 rfl rfl trivial rfl rfl (schanges_val W0 bs [] h2 [(3, ofB [x])] (by rw [one_ch, if_neg hz]) 1 rfl) rfl ?_
    rintro e L2 ⟨a42, c42, s3, s4, hi42, rfl, rfl⟩
    obtain ⟨bi, ci, ki, hi1, hi2, hi3, rfl⟩ := hi42.one
    obtain ⟨bq, cq, kq, hqe, rfl, _, _⟩ := hi3.block (by decide)
    cases hqe
    refine G.assignS rfl trivial rfl rfl rfl ?_
    refine G.nil ?_
    refine C.seq ?_
    refine C.seq ?_
    refine C.region ?_
    refine G.assignI rfl trivial rfl rfl rfl ?_
    refine G.nil ?_
    refine C.block ?_
    refine C.loop (fun m F D' L' => ∃ (i : Nat) (cs : List Value), m = 1 - i + 0 ∧ i ≤ 1 ∧ cs.length = 256 ∧ (∃ c0 : UInt8, cs[0 + (0 : Int).toNat * 1]? = some (.int .u8 (c0.toNat : Int))) ∧ F 0 = .int .u8 (x.toNat : Int) ∧ F 4 = ptr bs ∧ F 8 = .slice (some ⟨bq, 0, none⟩) 1 c42 ∧ F 9 = .int .i64 (i : Int) ∧ D' = [] ∧ [(bq, .row (imC (3, bi, ci, ki, ofB [x])) 40 kq)] :: [(bi, .row cs 5 ki)] :: s2 :: [] = L') ⟨_, ⟨0, bytesV (ofB [x]), rfl, by omega, by rw [bytesV_length, ofB_length], ⟨x, bytesV_head (ofB_head x [])⟩, rfl, rfl, rfl, rfl, rfl, rfl⟩⟩ ?_
    rintro m F D' L' ⟨i, cs, rfl, hi, hcl, ⟨c0, hc0⟩, h0, h4, h8, h9, rfl, rfl⟩
    refine C.fix (d := 0) h0 ?_
    refine C.fix (d := 4) h4 ?_
    refine C.fix (d := 8) h8 ?_
    refine C.fix (d := 9) h9 ?_
    refine C.seq ?_
    refine C.seq ?_
    refine C.region ?_
    refine G.moveI rfl trivial rfl rfl rfl ?_
    refine G.moveS rfl trivial rfl rfl rfl ?_
    refine G.lenSlice rfl trivial rfl rfl Try.underlying38 rfl ?_
    refine G.bin rfl trivial rfl rfl rfl rfl rfl ?_
    refine G.nil ?_
    refine C.cond _ rfl ?_ ?_
    · intro hc1
      obtain rfl : i = 0 := by omega
      refine C.skip ?_
      refine C.seq ?_
      refine C.block ?_
      refine C.region ?_
      refine G.moveS rfl trivial rfl rfl rfl ?_
      refine G.moveI rfl trivial rfl rfl rfl ?_
      refine G.indexAddr rfl trivial rfl rfl Try.underlying38 I40 rfl rfl (by decide) ?_
      refine G.fieldAddr rfl trivial rfl rfl Try.underlying40 rfl I22 rfl rfl ?_
      refine G.loadAt (v := .slice (some ⟨bi, 0, none⟩) (ofB [x]).length ci) .here rfl trivial rfl rfl Try.underlying22 rfl rfl rfl ?_
      refine G.indexAddr rfl trivial rfl rfl Try.underlying22 I5 rfl rfl (by rw [ofB_length]; decide) ?_
      refine G.loadAt (v := .int .u8 (c0.toNat : Int)) (.next .here) rfl trivial rfl rfl Try.underlying5 rfl rfl hc0 ?_
      refine G.bin rfl trivial rfl rfl rfl rfl rfl ?_
      refine G.byte (d := 56) ⟨_, rfl⟩ ?_
      intro c56
      refine G.indexAddr rfl trivial rfl rfl Try.underlying22 I5 rfl rfl (by rw [ofB_length]; decide) ?_
      refine G.store (v := .int _ _) (by first | exact .here | exact .next .here | exact .next (.next .here) | exact .next (.next (.next .here)) | exact .next (.next (.next (.next .here))) | exact .next (.next (.next (.next (.next .here)))) | exact .next (.next (.next (.next (.next (.next .here))))) | exact .next (.next (.next (.next (.next (.next (.next .here)))))) | exact .in1 | exact .next .in1 | exact .next (.next .in1) | exact .next (.next (.next .in1)) | exact .next (.next (.next (.next .in1))) | exact .in2 | exact .next .in2 | exact .next (.next .in2) | exact .next (.next (.next .in2)) | exact .next (.next (.next (.next .in2))) | exact .app .here | exact .app (.next .here) | exact .app (.next (.next .here)) | exact .app (.next (.next (.next .here))) | exact .app (.next (.next (.next (.next .here)))) | exact .app (.next (.next (.next (.next (.next .here))))) | exact .app (.next (.next (.next (.next (.next (.next .here)))))) | exact .app (.next (.next (.next (.next (.next (.next (.next .here))))))) | exact .app .in1 | exact .app .in2 | exact .app (.next .in1) | exact .next (.app .in1) | exact .next (.next (.app .in1)) | exact .next (.app .here) | exact .next (.next (.app .here)) | exact .next (.next (.next (.app .here))) | exact .next (.next (.next (.next (.app .here))))) rfl trivial rfl I5 rfl rfl rfl (by rw [hcl]; decide) _ (by first | (simp only [List.set_cons_succ, List.set_cons_zero]; done) | (simp only [List.set_cons_succ, List.set_cons_zero]; exact rfl) | exact rfl) ?_
      refine G.nil ?_
      refine C.region ?_
      refine G.moveI rfl trivial rfl rfl rfl ?_
      refine G.add rfl trivial rfl rfl rfl rfl (by omega) ?_
      refine G.assignI rfl trivial rfl rfl rfl ?_
      refine G.nil ?_
      exact ⟨1 - (0 + 1) + 0, by omega, 1, _, rfl, by omega, by rw [List.length_set]; exact hcl, ⟨c56, by rw [List.getElem?_set_self (by rw [hcl]; decide)]⟩, rfl, rfl, rfl, rfl, rfl, rfl⟩
    · intro hc1
      refine C.exit ?_
      refine C.seq ?_
      refine C.region ?_
      refine G.moveP rfl trivial rfl rfl rfl ?_
      refine G.less (L' := s2 :: []) (fun _ h => h.fewer (by simp)) ?_
      refine G.call E17 rfl rfl trivial rfl rfl (smust_val W0 bs [] h2 3 (by decide) (ofB [x]) (one_R x) 256 (ofB_length _)) rfl ?_
      rintro e L2 ⟨a59, c59, s59, hv59, rfl, rfl⟩
      obtain ⟨bo2, co2, ko2, hoe2, rfl, _, _⟩ := hv59.block (by decide)
      cases hoe2
      refine G.assignS rfl trivial rfl rfl rfl ?_
      refine G.nil ?_
      refine C.seq ?_
      refine C.region ?_
      refine G.moveS rfl trivial rfl rfl rfl ?_
      refine G.indexAddr rfl trivial rfl rfl Try.underlying22 I5 rfl rfl (by decide) ?_
      refine G.loadAt (v := .int .u8 (x.toNat : Int)) .here rfl trivial rfl rfl Try.underlying5 rfl rfl (bytesV_head (ofB_head x [])) ?_
      refine G.bin rfl trivial rfl rfl rfl rfl rfl ?_
      refine G.indexAddr rfl trivial rfl rfl Try.underlying22 I5 rfl rfl (by decide) ?_
      refine G.store (v := .int _ _) (by first | exact .here | exact .next .here | exact .next (.next .here) | exact .next (.next (.next .here)) | exact .next (.next (.next (.next .here))) | exact .next (.next (.next (.next (.next .here)))) | exact .next (.next (.next (.next (.next (.next .here))))) | exact .next (.next (.next (.next (.next (.next (.next .here)))))) | exact .in1 | exact .next .in1 | exact .next (.next .in1) | exact .next (.next (.next .in1)) | exact .next (.next (.next (.next .in1))) | exact .in2 | exact .next .in2 | exact .next (.next .in2) | exact .next (.next (.next .in2)) | exact .next (.next (.next (.next .in2))) | exact .app .here | exact .app (.next .here) | exact .app (.next (.next .here)) | exact .app (.next (.next (.next .here))) | exact .app (.next (.next (.next (.next .here)))) | exact .app (.next (.next (.next (.next (.next .here))))) | exact .app (.next (.next (.next (.next (.next (.next .here)))))) | exact .app (.next (.next (.next (.next (.next (.next (.next .here))))))) | exact .app .in1 | exact .app .in2 | exact .app (.next .in1) | exact .next (.app .in1) | exact .next (.next (.app .in1)) | exact .next (.app .here) | exact .next (.next (.app .here)) | exact .next (.next (.next (.app .here))) | exact .next (.next (.next (.next (.app .here))))) rfl trivial rfl I5 rfl rfl rfl (by rw [bytesV_length, ofB_length]; decide) _ (by first | (simp only [List.set_cons_succ, List.set_cons_zero]; done) | (simp only [List.set_cons_succ, List.set_cons_zero]; exact rfl) | exact rfl) ?_
      refine G.less (L' := s2 :: []) (fun _ h => h.fewer (by simp)) ?_
      refine G.nil ?_
      refine C.seq ?_
      refine C.region ?_
      refine G.moveP rfl trivial rfl rfl rfl ?_
      refine G.call E13 rfl rfl trivial rfl rfl (spage_val W0 bs [] h2 3 (by decide) (ofB [x]) (one_R x) 256 (ofB_length _)) rfl ?_
      rintro e L2 ⟨a67, c67, s67, hv67, rfl, rfl⟩
      obtain ⟨bo3, co3, ko3, hoe3, rfl, _, _⟩ := hv67.block (by decide)
      cases hoe3
      refine G.moveU rfl trivial rfl rfl rfl ?_
      refine G.extractL rfl trivial rfl rfl rfl rfl ?_
      refine G.extractL rfl trivial rfl rfl rfl rfl ?_
      refine G.assignS rfl trivial rfl rfl rfl ?_
      refine G.assignI rfl trivial rfl rfl rfl ?_
      refine G.nil ?_
      refine C.seq ?_
      refine C.region ?_
      refine G.moveI rfl trivial rfl rfl rfl ?_
      refine G.bin rfl trivial rfl rfl rfl rfl rfl ?_
      refine G.moveB rfl trivial rfl rfl rfl ?_
      refine G.moveS rfl ⟨_, rfl, rfl, rfl⟩ rfl rfl rfl ?_
      refine G.indexAddr rfl ⟨_, rfl, rfl, rfl⟩ rfl rfl Try.underlying22 I5 rfl rfl (by decide) ?_
      refine G.loadAt (v := .int .u8 (x.toNat : Int)) .here rfl ⟨_, rfl, rfl, rfl⟩ rfl rfl Try.underlying5 rfl rfl (bytesV_head (ofB_head x [])) ?_
      refine G.moveI rfl ⟨_, rfl, rfl, rfl⟩ rfl rfl rfl ?_
      refine G.bin rfl ⟨_, rfl, rfl, rfl⟩ rfl rfl rfl rfl rfl ?_
      first | refine G.pickT rfl trivial rfl rfl rfl rfl ?_ | refine G.pickF rfl trivial rfl rfl rfl rfl ?_
      refine G.assignB rfl trivial rfl rfl rfl ?_
      refine G.nil ?_
      refine C.ret ?_
      -- end x42Fc1F
      exact ⟨rfl, _, Res.of (rs := [.tmp 2]) rfl rfl, by show Ending.returned (Value.bool (decide _)) = _; simp⟩
end laws
end Sht
end Go.Proofs.Ytgfdghhojnmaoaa
