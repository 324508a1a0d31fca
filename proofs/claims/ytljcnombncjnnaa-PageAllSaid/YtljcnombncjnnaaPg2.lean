/-
  The laws of pages, walked.
-/
import Derived.Test.YtljcnombncjnnaaPg1
namespace Go.Proofs.Ytljcnombncjnnaa
open Go Go.SL Go.RowKit

def abc : List UInt8 := [97, 98, 99]
def dev3 : Dv := { newDv 1410 with l := lay (2 + 4 * 3) (ofB abc) 4 (newDv 1410).l, calls := incs 4 0 }
theorem newDv_len (n : Nat) : (newDv n).l.length = n := by simp only [newDv, List.length_replicate]
theorem newDv_secs (n : Nat) : ∀ s ∈ (newDv n).l, s.ok := fun s hs => by rw [List.eq_of_mem_replicate hs]; exact zeroSec_ok
theorem dev3_eq : pageW (3 : Int) (ofB abc) 4 (newDv 1410) = (dev3, 0) := pageW_live (n := 3) (by decide) (ofB_length _) 4 (by decide) _ (newDv_live _) (by rw [newDv_len]; decide)
theorem dev3_len : dev3.l.length = 1410 := by
  show (lay _ _ 4 (newDv 1410).l).length = 1410
  rw [lay_length, newDv_len]
theorem dev3_ok : dev3.ok := by
  have h := pageW_ok (3 : Int) (ofB abc) 4 (newDv 1410) (newDv_ok (by decide))
  rw [dev3_eq] at h
  exact h
theorem dev3_page : pageOf dev3 3 = ofB abc := page_of_lay (n := 3) (newDv_secs 1410) (ofB_length _) (by rw [newDv_len]; decide)
theorem dev3_now (h : 14 < dev3.l.length) : dev3.l[14].now = part (ofB abc) 0 := lay_now (p := 14) (newDv_secs 1410) (ofB_length _) (q := 0) (by decide) (by rw [newDv_len]; decide) h
theorem dev3_loose : (looses dev3.l 0).length = 4 := by kernel_rfl
theorem begun_spec (W0 : World) (L : List Seg) : FnS Try.prog W0 6 #[] L (fun e L' => L' = L ∧ e = .returned (.bool true)) := by
  refine FnS.of (args := []) Try.func6 rfl rfl ?_
  refine C.seq ?_
  refine C.region ?_
  refine G.assignB rfl trivial rfl rfl rfl ?_
  refine G.nil ?_
  refine C.seq ?_
  refine C.region ?_
  refine G.call E7 rfl rfl trivial rfl rfl (new_spec W0 _ 1410) rfl ?_
  rintro e L2 ⟨bd, bl, rfl, rfl⟩
  rw [show clampN 1410 = 1410 from rfl]
  refine G.assignP rfl trivial rfl rfl rfl ?_
  refine G.nil ?_
  refine C.seq ?_
  refine C.region ?_
  refine G.moveP rfl trivial rfl rfl rfl ?_
  refine G.buildSliceL (cs := [.int .u8 97, .int .u8 98, .int .u8 99]) (zs := [(.int .u8 0), (.int .u8 0), (.int .u8 0)]) rfl trivial rfl rfl Try.underlying23 I5 rfl (by kernel_rfl) rfl rfl ?_
  intro b11
  refine G.convSame (by first | exact .here | exact .next .here | exact .next (.next .here) | exact .next (.next (.next .here)) | exact .next (.next (.next (.next .here))) | exact .next (.next (.next (.next (.next .here)))) | exact .next (.next (.next (.next (.next (.next .here))))) | exact .next (.next (.next (.next (.next (.next (.next .here)))))) | exact .in1 | exact .next .in1 | exact .next (.next .in1) | exact .next (.next (.next .in1)) | exact .next (.next (.next (.next .in1))) | exact .in2 | exact .next .in2 | exact .next (.next .in2) | exact .next (.next (.next .in2)) | exact .next (.next (.next (.next .in2))) | exact .app .here | exact .app (.next .here) | exact .app (.next (.next .here)) | exact .app (.next (.next (.next .here))) | exact .app (.next (.next (.next (.next .here)))) | exact .app (.next (.next (.next (.next (.next .here))))) | exact .app (.next (.next (.next (.next (.next (.next .here)))))) | exact .app (.next (.next (.next (.next (.next (.next (.next .here))))))) | exact .app .in1 | exact .app .in2 | exact .app (.next .in1) | exact .next (.app .in1) | exact .next (.next (.app .in1)) | exact .next (.app .here) | exact .next (.next (.app .here)) | exact .next (.next (.next (.app .here))) | exact .next (.next (.next (.next (.app .here))))) rfl rfl trivial rfl rfl Try.underlying23 Try.underlying5 rfl ?_
  refine G.call E8 rfl rfl trivial rfl rfl (of_spec W0 _ _ 3 _ abc rfl (fun _ => Rd.row0 (cs := bytesV abc) (.next .here))) rfl ?_
  rintro e L2 ⟨bp, rfl, rfl⟩
  refine G.call E9 rfl rfl trivial rfl rfl (page_write W0 [_, _] _ bd bl (newDv 1410) (newDv_ok (by decide)) 3 (by decide) _ _ (ofB abc) (ofB_length _) (by decide) (fun _ => Rd.row0 .here)) rfl ?_
  rintro e L2 ⟨rfl, rfl⟩
  rw [dev3_eq]
  generalize hd3 : dev3 = d3
  have ok3 := dev3_ok
  have len3 := dev3_len
  have page3 := dev3_page
  have loose3 := dev3_loose
  have now3 := dev3_now
  rw [hd3] at ok3 len3 page3 loose3 now3
  refine G.assignI rfl trivial rfl rfl rfl ?_
  refine G.nil ?_
  refine C.seq ?_
  refine C.region ?_
  refine G.moveP rfl trivial rfl rfl rfl ?_
  refine G.call E11 rfl rfl trivial rfl rfl (page_read W0 [_, _] _ bd bl d3 ok3 3 (by decide) (by rw [len3]; decide)) rfl ?_
  rintro e L2 ⟨v, seg, hv, rfl, rfl⟩
  rw [page3] at hv
  obtain ⟨a17, c17, rfl, hr17⟩ := hv.form
  refine G.moveU rfl trivial rfl rfl rfl ?_
  refine G.extractL rfl trivial rfl rfl rfl rfl ?_
  refine G.extractL rfl trivial rfl rfl rfl rfl ?_
  refine G.assignS rfl trivial rfl rfl rfl ?_
  refine G.assignI rfl trivial rfl rfl rfl ?_
  refine G.nil ?_
  refine C.seq ?_
  refine C.region ?_
  refine G.moveP rfl trivial rfl rfl rfl ?_
  refine G.call E10 rfl rfl trivial rfl rfl (read_ok W0 [_, _, _] _ bd bl d3 ok3 14 (by rw [len3]; decide)) rfl ?_
  rintro e L2 ⟨v, seg2, hv2, rfl, rfl⟩
  rw [now3] at hv2
  obtain ⟨a22, c22, rfl, hr22⟩ := hv2.form
  obtain ⟨p17, o17, rfl, d17⟩ := (hr17 W0 []).some_ (by rw [bytesV_length, ofB_length]; decide)
  obtain ⟨p22, o22, rfl, d22⟩ := (hr22 W0 []).some_ (by rw [bytesV_length, part_length (ofB_length _) (by decide)]; decide)
  refine G.moveU rfl trivial rfl rfl rfl ?_
  refine G.extractL rfl trivial rfl rfl rfl rfl ?_
  refine G.extractL rfl trivial rfl rfl rfl rfl ?_
  refine G.assignS rfl trivial rfl rfl rfl ?_
  refine G.assignI rfl trivial rfl rfl rfl ?_
  refine G.nil ?_
  refine C.seq ?_
  refine C.region ?_
  refine G.moveP rfl trivial rfl rfl rfl ?_
  refine G.call E11 rfl rfl trivial rfl rfl (page_read_out W0 _ _ 96 (by decide)) rfl ?_
  rintro e L2 ⟨rfl, rfl⟩
  refine G.moveU rfl trivial rfl rfl rfl ?_
  refine G.extractL rfl trivial rfl rfl rfl rfl ?_
  refine G.extractL rfl trivial rfl rfl rfl rfl ?_
  refine G.assignS rfl trivial rfl rfl rfl ?_
  refine G.assignI rfl trivial rfl rfl rfl ?_
  refine G.nil ?_
  refine C.seq ?_
  refine C.region ?_
  refine G.moveI rfl trivial rfl rfl rfl ?_
  refine G.bin rfl trivial rfl rfl rfl rfl rfl ?_
  refine G.yes (t := 31) rfl rfl ?_
  refine G.moveB rfl trivial rfl rfl rfl ?_
  refine G.moveI rfl ⟨_, rfl, rfl, rfl⟩ rfl rfl rfl ?_
  refine G.bin rfl ⟨_, rfl, rfl, rfl⟩ rfl rfl rfl rfl rfl ?_
  refine G.yes (t := 34) rfl rfl ?_
  first | refine G.pickT rfl trivial rfl rfl rfl rfl ?_ | refine G.pickF rfl trivial rfl rfl rfl rfl ?_
  refine G.moveB rfl trivial rfl rfl rfl ?_
  refine G.moveS rfl ⟨_, rfl, rfl, rfl⟩ rfl rfl rfl ?_
  refine G.lenSlice rfl ⟨_, rfl, rfl, rfl⟩ rfl rfl Try.underlying23 rfl ?_
  refine G.bin rfl ⟨_, rfl, rfl, rfl⟩ rfl rfl rfl rfl rfl ?_
  refine G.yes (t := 39) rfl rfl ?_
  first | refine G.pickT rfl trivial rfl rfl rfl rfl ?_ | refine G.pickF rfl trivial rfl rfl rfl rfl ?_
  refine G.moveB rfl trivial rfl rfl rfl ?_
  refine G.moveS rfl ⟨_, rfl, rfl, rfl⟩ rfl rfl rfl ?_
  refine G.indexAddr rfl ⟨_, rfl, rfl, rfl⟩ rfl rfl Try.underlying23 I5 rfl rfl (by omega) ?_
  refine G.load (v := .int .u8 99) rfl ⟨_, rfl, rfl, rfl⟩ rfl rfl Try.underlying5 rfl rfl (fun w hm => Rd.cell_at (j := 2) (hr17 W0 _).cons (by rw [bytesV_length, ofB_length]; decide) w hm) ?_
  refine G.bin rfl ⟨_, rfl, rfl, rfl⟩ rfl rfl rfl rfl rfl ?_
  refine G.yes (t := 45) rfl rfl ?_
  first | refine G.pickT rfl trivial rfl rfl rfl rfl ?_ | refine G.pickF rfl trivial rfl rfl rfl rfl ?_
  refine G.moveB rfl trivial rfl rfl rfl ?_
  refine G.moveI rfl ⟨_, rfl, rfl, rfl⟩ rfl rfl rfl ?_
  refine G.bin rfl ⟨_, rfl, rfl, rfl⟩ rfl rfl rfl rfl rfl ?_
  refine G.yes (t := 49) rfl rfl ?_
  first | refine G.pickT rfl trivial rfl rfl rfl rfl ?_ | refine G.pickF rfl trivial rfl rfl rfl rfl ?_
  refine G.moveB rfl trivial rfl rfl rfl ?_
  refine G.moveS rfl ⟨_, rfl, rfl, rfl⟩ rfl rfl rfl ?_
  refine G.indexAddr rfl ⟨_, rfl, rfl, rfl⟩ rfl rfl Try.underlying23 I5 rfl rfl (by omega) ?_
  refine G.load (v := .int .u8 97) rfl ⟨_, rfl, rfl, rfl⟩ rfl rfl Try.underlying5 rfl rfl (fun w hm => Rd.cell_at (j := 0) (hr22 W0 _) (by rw [bytesV_length, part_length (ofB_length _) (by decide)]; decide) w hm) ?_
  refine G.bin rfl ⟨_, rfl, rfl, rfl⟩ rfl rfl rfl rfl rfl ?_
  refine G.yes (t := 55) rfl rfl ?_
  first | refine G.pickT rfl trivial rfl rfl rfl rfl ?_ | refine G.pickF rfl trivial rfl rfl rfl rfl ?_
  refine G.moveB rfl trivial rfl rfl rfl ?_
  refine G.moveI rfl ⟨_, rfl, rfl, rfl⟩ rfl rfl rfl ?_
  refine G.bin rfl ⟨_, rfl, rfl, rfl⟩ rfl rfl rfl rfl rfl ?_
  refine G.yes (t := 59) rfl rfl ?_
  first | refine G.pickT rfl trivial rfl rfl rfl rfl ?_ | refine G.pickF rfl trivial rfl rfl rfl rfl ?_
  refine G.moveB rfl trivial rfl rfl rfl ?_
  refine G.moveP rfl ⟨_, rfl, rfl, rfl⟩ rfl rfl rfl ?_
  refine G.call E15 rfl rfl ⟨_, rfl, rfl, rfl⟩ rfl rfl (loose_spec W0 [_, _, _, _] _ bd bl d3 ok3) rfl ?_
  rintro e L2 ⟨v, seg3, hv3, rfl, rfl⟩
  rw [loose3] at hv3
  obtain ⟨a63, c63, rfl, hr63⟩ := hv3.form
  refine G.lenSlice rfl ⟨_, rfl, rfl, rfl⟩ rfl rfl Try.underlying22 rfl ?_
  refine G.bin rfl ⟨_, rfl, rfl, rfl⟩ rfl rfl rfl rfl rfl ?_
  refine G.yes (t := 65) rfl rfl ?_
  first | refine G.pickT rfl trivial rfl rfl rfl rfl ?_ | refine G.pickF rfl trivial rfl rfl rfl rfl ?_
  refine G.assignB rfl trivial rfl rfl rfl ?_
  refine G.nil ?_
  refine C.less (fun _ h => h.tail.tail.tail.tail.tail.tail) ?_
  refine C.ret ?_
  -- end 
  exact ⟨rfl, _, Res.of (rs := [.tmp 0]) rfl rfl, rfl, rfl⟩
theorem dead_walk_hi (W0 : World) (n f : Nat) (hn : n < 96) (hf : f ≤ 8) (h4 : 4 ≤ f) :
    FnS Try.prog W0 5 #[.int .i64 (n : Int), .int .i64 (f : Int)] [] (fun e _ => e = .returned (.bool true)) := by
  have hp := pageW_fuse hn (ofB_length [1]) 4 (by decide) ((newDv 1410).setFuse f) f (by show decide ((f : Int) ≥ 0) = true; exact decide_eq_true (by omega)) (by show (if 0 > (f : Int) then 0 else (f : Int)) = f; rw [if_neg (by omega)]) (fun h => by show ((newDv 1410).isDead || decide ((f : Int) = 0)) = false; rw [show (newDv 1410).isDead = false from rfl, show decide ((f : Int) = 0) = false from decide_eq_false (by omega)]; rfl) (by show 386 ≤ (newDv 1410).l.length; rw [newDv_len]; decide)
  rw [if_pos h4, show min 4 f = 4 by omega, show ((newDv 1410).setFuse (f : Int)).calls = 0 from rfl, incs_zero (by omega)] at hp
  refine FnS.of (args := [.int .i64 (n : Int), .int .i64 (f : Int)]) Try.func5 rfl rfl ?_
  refine C.seq ?_
  refine C.region ?_
  refine G.assignB rfl trivial rfl rfl rfl ?_
  refine G.nil ?_
  refine C.seq ?_
  refine C.region ?_
  refine G.call E6 rfl rfl trivial rfl rfl (begun_spec W0 _) rfl ?_
  rintro e L2 ⟨rfl, rfl⟩
  refine G.assignB rfl trivial rfl rfl rfl ?_
  refine G.nil ?_
  refine C.seq ?_
  refine C.seq ?_
  refine C.region ?_
  refine G.moveB rfl trivial rfl rfl rfl ?_
  first | refine G.notD rfl trivial rfl rfl rfl ?_ | refine G.not rfl trivial rfl rfl rfl ?_
  refine G.nil ?_
  refine C.condF rfl ?_
  refine C.skip ?_
  refine C.seq ?_
  refine C.seq ?_
  refine C.region ?_
  refine G.moveI rfl trivial rfl rfl rfl ?_
  refine G.bin rfl trivial rfl rfl rfl rfl rfl ?_
  refine G.moveB rfl trivial rfl rfl rfl ?_
  refine G.no (t := 15) rfl (by omega) ?_
  refine G.moveI rfl ⟨_, rfl, rfl, rfl⟩ rfl rfl rfl ?_
  refine G.bin rfl ⟨_, rfl, rfl, rfl⟩ rfl rfl rfl rfl rfl ?_
  first | refine G.pickT rfl trivial rfl rfl rfl rfl ?_ | refine G.pickF rfl trivial rfl rfl rfl rfl ?_
  refine G.moveB rfl trivial rfl rfl rfl ?_
  refine G.no (t := 19) rfl (by omega) ?_
  refine G.moveI rfl ⟨_, rfl, rfl, rfl⟩ rfl rfl rfl ?_
  refine G.bin rfl ⟨_, rfl, rfl, rfl⟩ rfl rfl rfl rfl rfl ?_
  first | refine G.pickT rfl trivial rfl rfl rfl rfl ?_ | refine G.pickF rfl trivial rfl rfl rfl rfl ?_
  refine G.moveB rfl trivial rfl rfl rfl ?_
  refine G.no (t := 23) rfl (by omega) ?_
  refine G.moveI rfl ⟨_, rfl, rfl, rfl⟩ rfl rfl rfl ?_
  refine G.bin rfl ⟨_, rfl, rfl, rfl⟩ rfl rfl rfl rfl rfl ?_
  first | refine G.pickT rfl trivial rfl rfl rfl rfl ?_ | refine G.pickF rfl trivial rfl rfl rfl rfl ?_
  refine G.nil ?_
  refine C.no rfl (by omega) ?_
  refine C.skip ?_
  refine C.seq ?_
  refine C.region ?_
  refine G.call E7 rfl rfl trivial rfl rfl (new_spec W0 _ 1410) rfl ?_
  rintro e L2 ⟨bd, bl, rfl, rfl⟩
  rw [show clampN 1410 = 1410 from rfl]
  refine G.assignP rfl trivial rfl rfl rfl ?_
  refine G.nil ?_
  refine C.seq ?_
  refine C.region ?_
  refine G.moveP rfl trivial rfl rfl rfl ?_
  refine G.moveI rfl trivial rfl rfl rfl ?_
  refine G.call E13 rfl rfl trivial rfl rfl (fuse_spec W0 [] _ bd bl (newDv 1410) f) rfl ?_
  rintro e L2 ⟨rfl, rfl⟩
  refine G.nil ?_
  refine C.seq ?_
  refine C.region ?_
  refine G.moveP rfl trivial rfl rfl rfl ?_
  refine G.moveI rfl trivial rfl rfl rfl ?_
  refine G.buildSliceL (cs := [.int .u8 1]) (zs := [(.int .u8 0)]) rfl trivial rfl rfl Try.underlying23 I5 rfl (by kernel_rfl) rfl rfl ?_
  intro b33
  refine G.call E8 rfl rfl trivial rfl rfl (of_spec W0 _ _ 1 _ [1] rfl (fun _ => Rd.row0 (cs := bytesV [1]) (.next .here))) rfl ?_
  rintro e L2 ⟨bp, rfl, rfl⟩
  refine G.call E9 rfl rfl trivial rfl rfl (page_write W0 [_, _] _ bd bl ((newDv 1410).setFuse f) (Dv.setFuse_ok (newDv_ok (by decide)) (by omega)) n (by omega) _ _ (ofB [1]) (ofB_length _) (by decide) (fun _ => Rd.row0 .here)) rfl ?_
  rintro e L2 ⟨rfl, rfl⟩
  rw [hp.1]
  have hcalls := hp.2
  generalize (pageW (n : Int) (ofB [1]) 4 ((newDv 1410).setFuse f)).1 = d3 at *
  refine G.assignI rfl trivial rfl rfl rfl ?_
  refine G.nil ?_
  refine C.seq ?_
  refine C.region ?_
  refine G.moveI rfl trivial rfl rfl rfl ?_
  refine G.call E11 rfl rfl trivial rfl rfl (page_read_nil W0 _ _ (by omega)) rfl ?_
  rintro e L2 ⟨rfl, rfl⟩
  refine G.moveU rfl trivial rfl rfl rfl ?_
  refine G.extractL rfl trivial rfl rfl rfl rfl ?_
  refine G.extractL rfl trivial rfl rfl rfl rfl ?_
  refine G.assignS rfl trivial rfl rfl rfl ?_
  refine G.assignI rfl trivial rfl rfl rfl ?_
  refine G.nil ?_
  refine C.seq ?_
  refine C.region ?_
  refine G.moveI rfl trivial rfl rfl rfl ?_
  refine G.bin rfl trivial rfl rfl rfl rfl rfl ?_
  refine G.moveI rfl trivial rfl rfl rfl ?_
  refine G.bin rfl trivial rfl rfl rfl rfl rfl ?_
  refine G.boolEq rfl trivial rfl rfl Try.underlying4 rfl rfl ?_
  refine G.fix (d := 45) (v := .bool true) (by show Value.bool (decide ((0 : Int) = 0) == decide ((f : Int) ≥ 4)) = _; rw [decide_eq_true (show (f : Int) ≥ 4 by omega)]; rfl) ?_
  refine G.moveB rfl trivial rfl rfl rfl ?_
  refine G.moveI rfl ⟨_, rfl, rfl, rfl⟩ rfl rfl rfl ?_
  refine G.bin rfl ⟨_, rfl, rfl, rfl⟩ rfl rfl rfl rfl rfl ?_
  refine G.yes (t := 48) rfl rfl ?_
  refine G.moveB rfl ⟨_, rfl, rfl, rfl⟩ rfl rfl rfl ?_
  refine G.skip rfl rfl rfl rfl rfl rfl ?_
  refine G.skip rfl rfl rfl rfl rfl rfl ?_
  first | refine G.pickT rfl ⟨_, rfl, rfl, rfl⟩ rfl rfl rfl rfl ?_ | refine G.pickF rfl ⟨_, rfl, rfl, rfl⟩ rfl rfl rfl rfl ?_
  first | refine G.pickT rfl trivial rfl rfl rfl rfl ?_ | refine G.pickF rfl trivial rfl rfl rfl rfl ?_
  refine G.moveB rfl trivial rfl rfl rfl ?_
  refine G.moveI rfl ⟨_, rfl, rfl, rfl⟩ rfl rfl rfl ?_
  refine G.bin rfl ⟨_, rfl, rfl, rfl⟩ rfl rfl rfl rfl rfl ?_
  refine G.yes (t := 56) rfl rfl ?_
  first | refine G.pickT rfl trivial rfl rfl rfl rfl ?_ | refine G.pickF rfl trivial rfl rfl rfl rfl ?_
  refine G.moveB rfl trivial rfl rfl rfl ?_
  refine G.moveP rfl ⟨_, rfl, rfl, rfl⟩ rfl rfl rfl ?_
  refine G.call E14 rfl rfl ⟨_, rfl, rfl, rfl⟩ rfl rfl (calls_spec W0 [_, _] _ bd bl d3) rfl ?_
  rintro e L2 ⟨rfl, rfl⟩
  rw [hcalls]
  refine G.moveI rfl ⟨_, rfl, rfl, rfl⟩ rfl rfl rfl ?_
  refine G.min2 rfl ⟨_, rfl, rfl, rfl⟩ rfl rfl rfl rfl ?_
  refine G.bin rfl ⟨_, rfl, rfl, rfl⟩ rfl rfl rfl rfl rfl ?_
  refine G.yes (t := 63) rfl (by split <;> omega) ?_
  first | refine G.pickT rfl trivial rfl rfl rfl rfl ?_ | refine G.pickF rfl trivial rfl rfl rfl rfl ?_
  refine G.assignB rfl trivial rfl rfl rfl ?_
  refine G.nil ?_
  refine C.ret ?_
  -- end 
  exact ⟨rfl, _, Res.of (rs := [.tmp 4]) rfl rfl, rfl⟩
theorem dead_walk_lo (W0 : World) (n f : Nat) (hn : n < 96) (hf : f ≤ 8) (h4 : ¬ 4 ≤ f) :
    FnS Try.prog W0 5 #[.int .i64 (n : Int), .int .i64 (f : Int)] [] (fun e _ => e = .returned (.bool true)) := by
  have hp := pageW_fuse hn (ofB_length [1]) 4 (by decide) ((newDv 1410).setFuse f) f (by show decide ((f : Int) ≥ 0) = true; exact decide_eq_true (by omega)) (by show (if 0 > (f : Int) then 0 else (f : Int)) = f; rw [if_neg (by omega)]) (fun h => by show ((newDv 1410).isDead || decide ((f : Int) = 0)) = false; rw [show (newDv 1410).isDead = false from rfl, show decide ((f : Int) = 0) = false from decide_eq_false (by omega)]; rfl) (by show 386 ≤ (newDv 1410).l.length; rw [newDv_len]; decide)
  rw [if_neg h4, show min 4 f = f by omega, show ((newDv 1410).setFuse (f : Int)).calls = 0 from rfl, incs_zero (by omega)] at hp
  refine FnS.of (args := [.int .i64 (n : Int), .int .i64 (f : Int)]) Try.func5 rfl rfl ?_
  refine C.seq ?_
  refine C.region ?_
  refine G.assignB rfl trivial rfl rfl rfl ?_
  refine G.nil ?_
  refine C.seq ?_
  refine C.region ?_
  refine G.call E6 rfl rfl trivial rfl rfl (begun_spec W0 _) rfl ?_
  rintro e L2 ⟨rfl, rfl⟩
  refine G.assignB rfl trivial rfl rfl rfl ?_
  refine G.nil ?_
  refine C.seq ?_
  refine C.seq ?_
  refine C.region ?_
  refine G.moveB rfl trivial rfl rfl rfl ?_
  first | refine G.notD rfl trivial rfl rfl rfl ?_ | refine G.not rfl trivial rfl rfl rfl ?_
  refine G.nil ?_
  refine C.condF rfl ?_
  refine C.skip ?_
  refine C.seq ?_
  refine C.seq ?_
  refine C.region ?_
  refine G.moveI rfl trivial rfl rfl rfl ?_
  refine G.bin rfl trivial rfl rfl rfl rfl rfl ?_
  refine G.moveB rfl trivial rfl rfl rfl ?_
  refine G.no (t := 15) rfl (by omega) ?_
  refine G.moveI rfl ⟨_, rfl, rfl, rfl⟩ rfl rfl rfl ?_
  refine G.bin rfl ⟨_, rfl, rfl, rfl⟩ rfl rfl rfl rfl rfl ?_
  first | refine G.pickT rfl trivial rfl rfl rfl rfl ?_ | refine G.pickF rfl trivial rfl rfl rfl rfl ?_
  refine G.moveB rfl trivial rfl rfl rfl ?_
  refine G.no (t := 19) rfl (by omega) ?_
  refine G.moveI rfl ⟨_, rfl, rfl, rfl⟩ rfl rfl rfl ?_
  refine G.bin rfl ⟨_, rfl, rfl, rfl⟩ rfl rfl rfl rfl rfl ?_
  first | refine G.pickT rfl trivial rfl rfl rfl rfl ?_ | refine G.pickF rfl trivial rfl rfl rfl rfl ?_
  refine G.moveB rfl trivial rfl rfl rfl ?_
  refine G.no (t := 23) rfl (by omega) ?_
  refine G.moveI rfl ⟨_, rfl, rfl, rfl⟩ rfl rfl rfl ?_
  refine G.bin rfl ⟨_, rfl, rfl, rfl⟩ rfl rfl rfl rfl rfl ?_
  first | refine G.pickT rfl trivial rfl rfl rfl rfl ?_ | refine G.pickF rfl trivial rfl rfl rfl rfl ?_
  refine G.nil ?_
  refine C.no rfl (by omega) ?_
  refine C.skip ?_
  refine C.seq ?_
  refine C.region ?_
  refine G.call E7 rfl rfl trivial rfl rfl (new_spec W0 _ 1410) rfl ?_
  rintro e L2 ⟨bd, bl, rfl, rfl⟩
  rw [show clampN 1410 = 1410 from rfl]
  refine G.assignP rfl trivial rfl rfl rfl ?_
  refine G.nil ?_
  refine C.seq ?_
  refine C.region ?_
  refine G.moveP rfl trivial rfl rfl rfl ?_
  refine G.moveI rfl trivial rfl rfl rfl ?_
  refine G.call E13 rfl rfl trivial rfl rfl (fuse_spec W0 [] _ bd bl (newDv 1410) f) rfl ?_
  rintro e L2 ⟨rfl, rfl⟩
  refine G.nil ?_
  refine C.seq ?_
  refine C.region ?_
  refine G.moveP rfl trivial rfl rfl rfl ?_
  refine G.moveI rfl trivial rfl rfl rfl ?_
  refine G.buildSliceL (cs := [.int .u8 1]) (zs := [(.int .u8 0)]) rfl trivial rfl rfl Try.underlying23 I5 rfl (by kernel_rfl) rfl rfl ?_
  intro b33
  refine G.call E8 rfl rfl trivial rfl rfl (of_spec W0 _ _ 1 _ [1] rfl (fun _ => Rd.row0 (cs := bytesV [1]) (.next .here))) rfl ?_
  rintro e L2 ⟨bp, rfl, rfl⟩
  refine G.call E9 rfl rfl trivial rfl rfl (page_write W0 [_, _] _ bd bl ((newDv 1410).setFuse f) (Dv.setFuse_ok (newDv_ok (by decide)) (by omega)) n (by omega) _ _ (ofB [1]) (ofB_length _) (by decide) (fun _ => Rd.row0 .here)) rfl ?_
  rintro e L2 ⟨rfl, rfl⟩
  rw [hp.1]
  have hcalls := hp.2
  generalize (pageW (n : Int) (ofB [1]) 4 ((newDv 1410).setFuse f)).1 = d3 at *
  refine G.assignI rfl trivial rfl rfl rfl ?_
  refine G.nil ?_
  refine C.seq ?_
  refine C.region ?_
  refine G.moveI rfl trivial rfl rfl rfl ?_
  refine G.call E11 rfl rfl trivial rfl rfl (page_read_nil W0 _ _ (by omega)) rfl ?_
  rintro e L2 ⟨rfl, rfl⟩
  refine G.moveU rfl trivial rfl rfl rfl ?_
  refine G.extractL rfl trivial rfl rfl rfl rfl ?_
  refine G.extractL rfl trivial rfl rfl rfl rfl ?_
  refine G.assignS rfl trivial rfl rfl rfl ?_
  refine G.assignI rfl trivial rfl rfl rfl ?_
  refine G.nil ?_
  refine C.seq ?_
  refine C.region ?_
  refine G.moveI rfl trivial rfl rfl rfl ?_
  refine G.bin rfl trivial rfl rfl rfl rfl rfl ?_
  refine G.moveI rfl trivial rfl rfl rfl ?_
  refine G.bin rfl trivial rfl rfl rfl rfl rfl ?_
  refine G.boolEq rfl trivial rfl rfl Try.underlying4 rfl rfl ?_
  refine G.fix (d := 45) (v := .bool true) (by show Value.bool (decide ((5 : Int) = 0) == decide ((f : Int) ≥ 4)) = _; rw [decide_eq_false (show ¬ (f : Int) ≥ 4 by omega)]; rfl) ?_
  refine G.moveB rfl trivial rfl rfl rfl ?_
  refine G.moveI rfl ⟨_, rfl, rfl, rfl⟩ rfl rfl rfl ?_
  refine G.bin rfl ⟨_, rfl, rfl, rfl⟩ rfl rfl rfl rfl rfl ?_
  refine G.no (t := 48) rfl (by decide) ?_
  refine G.moveB rfl ⟨_, rfl, rfl, rfl⟩ rfl rfl rfl ?_
  refine G.moveI rfl ⟨_, rfl, rfl, rfl⟩ rfl rfl rfl ?_
  refine G.bin rfl ⟨_, rfl, rfl, rfl⟩ rfl rfl rfl rfl rfl ?_
  refine G.yes (t := 51) rfl rfl ?_
  first | refine G.pickT rfl ⟨_, rfl, rfl, rfl⟩ rfl rfl rfl rfl ?_ | refine G.pickF rfl ⟨_, rfl, rfl, rfl⟩ rfl rfl rfl rfl ?_
  first | refine G.pickT rfl trivial rfl rfl rfl rfl ?_ | refine G.pickF rfl trivial rfl rfl rfl rfl ?_
  refine G.moveB rfl trivial rfl rfl rfl ?_
  refine G.moveI rfl ⟨_, rfl, rfl, rfl⟩ rfl rfl rfl ?_
  refine G.bin rfl ⟨_, rfl, rfl, rfl⟩ rfl rfl rfl rfl rfl ?_
  refine G.yes (t := 56) rfl rfl ?_
  first | refine G.pickT rfl trivial rfl rfl rfl rfl ?_ | refine G.pickF rfl trivial rfl rfl rfl rfl ?_
  refine G.moveB rfl trivial rfl rfl rfl ?_
  refine G.moveP rfl ⟨_, rfl, rfl, rfl⟩ rfl rfl rfl ?_
  refine G.call E14 rfl rfl ⟨_, rfl, rfl, rfl⟩ rfl rfl (calls_spec W0 [_, _] _ bd bl d3) rfl ?_
  rintro e L2 ⟨rfl, rfl⟩
  rw [hcalls]
  refine G.moveI rfl ⟨_, rfl, rfl, rfl⟩ rfl rfl rfl ?_
  refine G.min2 rfl ⟨_, rfl, rfl, rfl⟩ rfl rfl rfl rfl ?_
  refine G.bin rfl ⟨_, rfl, rfl, rfl⟩ rfl rfl rfl rfl rfl ?_
  refine G.yes (t := 63) rfl (by split <;> omega) ?_
  first | refine G.pickT rfl trivial rfl rfl rfl rfl ?_ | refine G.pickF rfl trivial rfl rfl rfl rfl ?_
  refine G.assignB rfl trivial rfl rfl rfl ?_
  refine G.nil ?_
  refine C.ret ?_
  -- end 
  exact ⟨rfl, _, Res.of (rs := [.tmp 4]) rfl rfl, rfl⟩
theorem dead_walk_no (W0 : World) (n f : Int) (h : ¬ (0 ≤ n ∧ n < 96 ∧ 0 ≤ f ∧ f ≤ 8)) :
    FnS Try.prog W0 5 #[.int .i64 n, .int .i64 f] [] (fun e _ => e = .returned (.bool true)) := by
  refine FnS.of (args := [.int .i64 n, .int .i64 f]) Try.func5 rfl rfl ?_
  refine C.seq ?_
  refine C.region ?_
  refine G.assignB rfl trivial rfl rfl rfl ?_
  refine G.nil ?_
  refine C.seq ?_
  refine C.region ?_
  refine G.call E6 rfl rfl trivial rfl rfl (begun_spec W0 _) rfl ?_
  rintro e L2 ⟨rfl, rfl⟩
  refine G.assignB rfl trivial rfl rfl rfl ?_
  refine G.nil ?_
  refine C.seq ?_
  refine C.seq ?_
  refine C.region ?_
  refine G.moveB rfl trivial rfl rfl rfl ?_
  first | refine G.notD rfl trivial rfl rfl rfl ?_ | refine G.not rfl trivial rfl rfl rfl ?_
  refine G.nil ?_
  refine C.condF rfl ?_
  refine C.skip ?_
  refine C.seq ?_
  refine C.seq ?_
  refine C.region ?_
  refine G.moveI rfl trivial rfl rfl rfl ?_
  refine G.bin rfl trivial rfl rfl rfl rfl rfl ?_
  refine G.moveB rfl trivial rfl rfl rfl ?_
  refine G.fork (t := 15) _ rfl ?_ ?_
  · intro hg15
    refine G.skip rfl rfl rfl rfl rfl rfl ?_
    refine G.skip rfl rfl rfl rfl rfl rfl ?_
    first | refine G.pickT rfl trivial rfl rfl rfl rfl ?_ | refine G.pickF rfl trivial rfl rfl rfl rfl ?_
    refine G.moveB rfl trivial rfl rfl rfl ?_
    refine G.skip rfl rfl rfl rfl rfl rfl ?_
    refine G.skip rfl rfl rfl rfl rfl rfl ?_
    first | refine G.pickT rfl trivial rfl rfl rfl rfl ?_ | refine G.pickF rfl trivial rfl rfl rfl rfl ?_
    refine G.moveB rfl trivial rfl rfl rfl ?_
    refine G.skip rfl rfl rfl rfl rfl rfl ?_
    refine G.skip rfl rfl rfl rfl rfl rfl ?_
    first | refine G.pickT rfl trivial rfl rfl rfl rfl ?_ | refine G.pickF rfl trivial rfl rfl rfl rfl ?_
    refine G.nil ?_
    refine C.condT rfl ?_
    refine C.seq ?_
    refine C.region ?_
    refine G.assignB rfl trivial rfl rfl rfl ?_
    refine G.nil ?_
    refine C.ret ?_
    -- end g15T
    exact ⟨rfl, _, Res.of (rs := [.tmp 4]) rfl rfl, rfl⟩
  · intro hg15
    refine G.moveI rfl ⟨_, rfl, rfl, rfl⟩ rfl rfl rfl ?_
    refine G.bin rfl ⟨_, rfl, rfl, rfl⟩ rfl rfl rfl rfl rfl ?_
    first | refine G.pickT rfl trivial rfl rfl rfl rfl ?_ | refine G.pickF rfl trivial rfl rfl rfl rfl ?_
    refine G.moveB rfl trivial rfl rfl rfl ?_
    refine G.fork (t := 19) _ rfl ?_ ?_
    · intro hg19
      refine G.skip rfl rfl rfl rfl rfl rfl ?_
      refine G.skip rfl rfl rfl rfl rfl rfl ?_
      first | refine G.pickT rfl trivial rfl rfl rfl rfl ?_ | refine G.pickF rfl trivial rfl rfl rfl rfl ?_
      refine G.moveB rfl trivial rfl rfl rfl ?_
      refine G.skip rfl rfl rfl rfl rfl rfl ?_
      refine G.skip rfl rfl rfl rfl rfl rfl ?_
      first | refine G.pickT rfl trivial rfl rfl rfl rfl ?_ | refine G.pickF rfl trivial rfl rfl rfl rfl ?_
      refine G.nil ?_
      refine C.condT rfl ?_
      refine C.seq ?_
      refine C.region ?_
      refine G.assignB rfl trivial rfl rfl rfl ?_
      refine G.nil ?_
      refine C.ret ?_
      -- end g15Fg19T
      exact ⟨rfl, _, Res.of (rs := [.tmp 4]) rfl rfl, rfl⟩
    · intro hg19
      refine G.moveI rfl ⟨_, rfl, rfl, rfl⟩ rfl rfl rfl ?_
      refine G.bin rfl ⟨_, rfl, rfl, rfl⟩ rfl rfl rfl rfl rfl ?_
      first | refine G.pickT rfl trivial rfl rfl rfl rfl ?_ | refine G.pickF rfl trivial rfl rfl rfl rfl ?_
      refine G.moveB rfl trivial rfl rfl rfl ?_
      refine G.fork (t := 23) _ rfl ?_ ?_
      · intro hg23
        refine G.skip rfl rfl rfl rfl rfl rfl ?_
        refine G.skip rfl rfl rfl rfl rfl rfl ?_
        first | refine G.pickT rfl trivial rfl rfl rfl rfl ?_ | refine G.pickF rfl trivial rfl rfl rfl rfl ?_
        refine G.nil ?_
        refine C.condT rfl ?_
        refine C.seq ?_
        refine C.region ?_
        refine G.assignB rfl trivial rfl rfl rfl ?_
        refine G.nil ?_
        refine C.ret ?_
        -- end g15Fg19Fg23T
        exact ⟨rfl, _, Res.of (rs := [.tmp 4]) rfl rfl, rfl⟩
      · intro hg23
        refine G.moveI rfl ⟨_, rfl, rfl, rfl⟩ rfl rfl rfl ?_
        refine G.bin rfl ⟨_, rfl, rfl, rfl⟩ rfl rfl rfl rfl rfl ?_
        first | refine G.pickT rfl trivial rfl rfl rfl rfl ?_ | refine G.pickF rfl trivial rfl rfl rfl rfl ?_
        refine G.nil ?_
        refine C.cond _ rfl ?_ ?_
        · intro hc1
          refine C.seq ?_
          refine C.region ?_
          refine G.assignB rfl trivial rfl rfl rfl ?_
          refine G.nil ?_
          refine C.ret ?_
          -- end g15Fg19Fg23Fc1T
          exact ⟨rfl, _, Res.of (rs := [.tmp 4]) rfl rfl, rfl⟩
        · intro hc1
          omega
end Go.Proofs.Ytljcnombncjnnaa
