/-
  The laws of the device, walked: what the file begins with, no device.
-/
import Derived.Test.YtooijfnimeoeaaaDv5
import Derived.Test.YtooijfnimeoeaaaPg1
namespace Go.Proofs.Ytooijfnimeoeaaa
open Go Go.SL Go.RowKit

theorem crash_nil (W0 : World) (L : List Seg) (a : Option Addr) (m c : Nat) : FnS Try.prog W0 17 #[.pointer none, .slice a m c] L (fun e L' => L' = L ∧ e = .returned (.pointer none)) := by
  refine FnS.of (args := [.pointer none, .slice a m c]) Try.func17 rfl rfl ?_
  refine C.seq ?_
  refine C.region ?_
  refine G.assignP rfl trivial rfl rfl rfl ?_
  refine G.nil ?_
  refine C.seq ?_
  refine C.seq ?_
  refine C.region ?_
  refine G.moveP rfl trivial rfl rfl rfl ?_
  refine G.ptrEq rfl trivial rfl rfl Try.underlying24 rfl rfl ?_
  refine G.nil ?_
  refine C.condT rfl ?_
  refine C.seq ?_
  refine C.region ?_
  refine G.assignP rfl trivial rfl rfl rfl ?_
  refine G.nil ?_
  refine C.ret ?_
  -- end 
  exact ⟨rfl, _, Res.of (rs := [.tmp 4]) rfl rfl, rfl, rfl⟩
def dB : Dv := (newDv 3).put 1 [97, 98]
theorem dB_eq : wr (newDv 3) 1 [97, 98] = (dB, 0) := wr_live (i := 1) (newDv_live 3) (by decide) (by decide)
theorem dB_ok : dB.ok := Dv.put_ok (newDv_ok (by decide)) rfl (by decide)
def eB : Dv := dB.crash []
def fB : Dv := dB.crash [true]
theorem dB_loose : looses dB.l 0 = [1] := by kernel_rfl
theorem eB_now : ∀ h : 1 < eB.l.length, eB.l[1].now = zero64 := fun _ => by kernel_rfl
theorem fB_now : ∀ h : 1 < fB.l.length, fB.l[1].now = over [97, 98] zero64 := fun _ => by kernel_rfl
theorem beganD_spec (W0 : World) (L : List Seg) : FnS Try.prog W0 9 #[] L (fun e L' => L' = L ∧ e = .returned (.bool true)) := by
  refine FnS.of (args := []) Try.func9 rfl rfl ?_
  refine C.seq ?_
  refine C.region ?_
  refine G.assignB rfl trivial rfl rfl rfl ?_
  refine G.nil ?_
  refine C.seq ?_
  refine C.region ?_
  refine G.call E10 rfl rfl trivial rfl rfl (new_spec W0 _ 3) rfl ?_
  rintro e L2 ⟨bd, bl, rfl, rfl⟩
  rw [show clampN 3 = 3 from rfl]
  refine G.assignP rfl trivial rfl rfl rfl ?_
  refine G.nil ?_
  refine C.seq ?_
  refine C.seq ?_
  refine C.region ?_
  refine G.moveP rfl trivial rfl rfl rfl ?_
  refine G.ptrEq rfl trivial rfl rfl Try.underlying24 rfl rfl ?_
  refine G.fix (d := 12) (v := .bool false) rfl ?_
  refine G.moveB rfl trivial rfl rfl rfl ?_
  refine G.moveP rfl ⟨_, rfl, rfl, rfl⟩ rfl rfl rfl ?_
  refine G.call E23 rfl rfl ⟨_, rfl, rfl, rfl⟩ rfl rfl (len_spec W0 [] _ bd bl (newDv 3)) rfl ?_
  rintro e L2 ⟨rfl, rfl⟩
  show G _ _ _ _ _ _ _ _ (devSeg bd bl (newDv 3) :: L)
  refine G.bin rfl ⟨_, rfl, rfl, rfl⟩ rfl rfl rfl rfl rfl ?_
  refine G.fix (d := 16) (v := .bool false) rfl ?_
  first | refine G.pickT rfl trivial rfl rfl rfl rfl ?_ | refine G.pickF rfl trivial rfl rfl rfl rfl ?_
  refine G.nil ?_
  refine C.condF rfl ?_
  refine C.skip ?_
  refine C.seq ?_
  refine C.region ?_
  refine G.moveP rfl trivial rfl rfl rfl ?_
  refine G.buildSliceL (cs := [.int .u8 97, .int .u8 98]) (zs := [(.int .u8 0), (.int .u8 0)]) rfl trivial rfl rfl Try.underlying31 I5 rfl (by kernel_rfl) rfl rfl ?_
  intro b19
  refine G.convSame (by first | exact .here | exact .next .here | exact .next (.next .here) | exact .next (.next (.next .here)) | exact .next (.next (.next (.next .here))) | exact .next (.next (.next (.next (.next .here)))) | exact .next (.next (.next (.next (.next (.next .here))))) | exact .next (.next (.next (.next (.next (.next (.next .here)))))) | exact .in1 | exact .next .in1 | exact .next (.next .in1) | exact .next (.next (.next .in1)) | exact .next (.next (.next (.next .in1))) | exact .in2 | exact .next .in2 | exact .next (.next .in2) | exact .next (.next (.next .in2)) | exact .next (.next (.next (.next .in2))) | exact .app .here | exact .app (.next .here) | exact .app (.next (.next .here)) | exact .app (.next (.next (.next .here))) | exact .app (.next (.next (.next (.next .here)))) | exact .app (.next (.next (.next (.next (.next .here))))) | exact .app (.next (.next (.next (.next (.next (.next .here)))))) | exact .app (.next (.next (.next (.next (.next (.next (.next .here))))))) | exact .app .in1 | exact .app .in2 | exact .app (.next .in1) | exact .next (.app .in1) | exact .next (.next (.app .in1)) | exact .next (.app .here) | exact .next (.next (.app .here)) | exact .next (.next (.next (.app .here))) | exact .next (.next (.next (.next (.app .here))))) rfl rfl trivial rfl rfl Try.underlying31 Try.underlying5 rfl ?_
  refine G.call E13 rfl rfl trivial rfl rfl (write_spec W0 [_] _ bd bl (newDv 3) (newDv_ok (by decide)) 1 _ 2 2 [97, 98] rfl (fun _ => Rd.row0 (cs := bytesV [97, 98]) .here)) rfl ?_
  rintro e L2 ⟨rfl, rfl⟩
  rw [dB_eq]
  have hok := dB_ok
  have hlo := dB_loose
  have hlen : dB.l.length = 3 := rfl
  have hcalls : dB.calls = 1 := rfl
  have heok : eB.ok := crash_ok dB_ok []
  have hfok : fB.ok := crash_ok dB_ok [true]
  have hel : eB.l.length = 3 := rfl
  have hfl : fB.l.length = 3 := rfl
  have hen := eB_now
  have hfn := fB_now
  have hed : eB.isDead = false := rfl
  have hec : dB.crash [] = eB := rfl
  have hfc : dB.crash [true] = fB := rfl
  generalize eB = e0 at *
  generalize fB = f0 at *
  generalize dB = d0 at *
  refine G.assignI rfl trivial rfl rfl rfl ?_
  refine G.nil ?_
  refine C.seq ?_
  refine C.region ?_
  refine G.moveP rfl trivial rfl rfl rfl ?_
  refine G.call E22 rfl rfl trivial rfl rfl (loose_spec W0 [_] _ bd bl d0 hok) rfl ?_
  rintro e L2 ⟨v, seg, hv, rfl, rfl⟩
  rw [hlo] at hv
  obtain ⟨a23, c23, rfl, hr23⟩ := hv.form
  refine G.assignS rfl trivial rfl rfl rfl ?_
  refine G.nil ?_
  refine C.seq ?_
  refine C.region ?_
  refine G.moveP rfl trivial rfl rfl rfl ?_
  refine G.call E17 rfl rfl trivial rfl rfl (crash_spec W0 [_, _] _ bd bl d0 hok (by omega) none 0 [] (Nat.le_refl _) (fun _ => Rd.nil)) rfl ?_
  rintro e L2 ⟨be, bel, rfl, rfl⟩
  rw [hec]
  refine G.moveP rfl trivial rfl rfl rfl ?_
  refine G.buildSliceL (cs := [.bool true]) (zs := [(.bool false)]) rfl trivial rfl rfl Try.underlying28 I4 rfl (by kernel_rfl) rfl rfl ?_
  intro b27
  refine G.call E17 rfl rfl trivial rfl rfl (crash_spec W0 [_, _, _, _] _ bd bl d0 hok (by omega) _ 1 [true] (Nat.le_refl _) (fun _ => Rd.row0 (cs := [true].map Value.bool) (.app .here))) rfl ?_
  rintro e L2 ⟨bf, bfl, rfl, rfl⟩
  rw [hfc]
  refine G.assignP rfl trivial rfl rfl rfl ?_
  refine G.assignP rfl trivial rfl rfl rfl ?_
  refine G.nil ?_
  refine C.seq ?_
  refine C.seq ?_
  refine C.region ?_
  refine G.moveS rfl trivial rfl rfl rfl ?_
  refine G.lenSlice rfl trivial rfl rfl Try.underlying46 rfl ?_
  refine G.bin rfl trivial rfl rfl rfl rfl rfl ?_
  refine G.no (t := 31) rfl (by simp) ?_
  refine G.moveB rfl trivial rfl rfl rfl ?_
  refine G.moveP rfl ⟨_, rfl, rfl, rfl⟩ rfl rfl rfl ?_
  refine G.ptrEq rfl ⟨_, rfl, rfl, rfl⟩ rfl rfl Try.underlying24 rfl rfl ?_
  refine G.fix (d := 34) (v := .bool false) rfl ?_
  first | refine G.pickT rfl trivial rfl rfl rfl rfl ?_ | refine G.pickF rfl trivial rfl rfl rfl rfl ?_
  refine G.moveB rfl trivial rfl rfl rfl ?_
  refine G.moveP rfl ⟨_, rfl, rfl, rfl⟩ rfl rfl rfl ?_
  refine G.ptrEq rfl ⟨_, rfl, rfl, rfl⟩ rfl rfl Try.underlying24 rfl rfl ?_
  refine G.fix (d := 38) (v := .bool false) rfl ?_
  first | refine G.pickT rfl trivial rfl rfl rfl rfl ?_ | refine G.pickF rfl trivial rfl rfl rfl rfl ?_
  refine G.nil ?_
  refine C.condF rfl ?_
  refine C.skip ?_
  refine C.seq ?_
  refine C.region ?_
  refine G.moveP rfl trivial rfl rfl rfl ?_
  refine G.call E21 rfl rfl trivial rfl rfl (read_ok W0 [_, _] _ be bel e0 heok 1 (by omega)) rfl ?_
  rintro e L2 ⟨v, seg2, hv2, rfl, rfl⟩
  rw [hen] at hv2
  obtain ⟨a42, c42, rfl, hr42⟩ := hv2.form
  refine G.moveU rfl trivial rfl rfl rfl ?_
  refine G.extractL rfl trivial rfl rfl rfl rfl ?_
  refine G.extractL rfl trivial rfl rfl rfl rfl ?_
  refine G.assignS rfl trivial rfl rfl rfl ?_
  refine G.assignI rfl trivial rfl rfl rfl ?_
  refine G.nil ?_
  refine C.seq ?_
  refine C.region ?_
  refine G.moveP rfl trivial rfl rfl rfl ?_
  refine G.call E21 rfl rfl trivial rfl rfl (read_ok W0 [_] _ bf bfl f0 hfok 1 (by omega)) rfl ?_
  rintro e L2 ⟨v, seg3, hv3, rfl, rfl⟩
  rw [hfn] at hv3
  obtain ⟨a47, c47, rfl, hr47⟩ := hv3.form
  obtain ⟨p23, o23, rfl, _⟩ := (hr23 W0 []).some_ (by decide)
  obtain ⟨p42, o42, rfl, _⟩ := (hr42 W0 []).some_ (by decide)
  obtain ⟨p47, o47, rfl, _⟩ := (hr47 W0 []).some_ (by decide)
  refine G.moveU rfl trivial rfl rfl rfl ?_
  refine G.extractL rfl trivial rfl rfl rfl rfl ?_
  refine G.extractL rfl trivial rfl rfl rfl rfl ?_
  refine G.assignS rfl trivial rfl rfl rfl ?_
  refine G.assignI rfl trivial rfl rfl rfl ?_
  refine G.nil ?_
  refine C.seq ?_
  refine C.region ?_
  refine G.moveP rfl trivial rfl rfl rfl ?_
  refine G.call E19 rfl rfl trivial rfl rfl (fuse_spec W0 [_, _, _, _, _, _, _] _ bd bl d0 0) rfl ?_
  rintro e L2 ⟨rfl, rfl⟩
  have hdd : (d0.setFuse 0).isDead = true := by simp [Dv.setFuse, Dv.isDead]
  have hdc : (d0.setFuse 0).calls = 1 := hcalls
  generalize d0.setFuse 0 = d1 at *
  refine G.nil ?_
  refine C.seq ?_
  refine C.region ?_
  refine G.moveI rfl trivial rfl rfl rfl ?_
  refine G.bin rfl trivial rfl rfl rfl rfl rfl ?_
  refine G.yes (t := 53) rfl rfl ?_
  refine G.moveB rfl trivial rfl rfl rfl ?_
  refine G.moveS rfl ⟨_, rfl, rfl, rfl⟩ rfl rfl rfl ?_
  refine G.indexAddr rfl ⟨_, rfl, rfl, rfl⟩ rfl rfl Try.underlying46 I3 rfl rfl (by decide) ?_
  refine G.load (v := .int .i64 1) rfl ⟨_, rfl, rfl, rfl⟩ rfl rfl Try.underlying3 rfl rfl (fun w hm => Rd.cell_at (j := 0) (hr23 W0 _).cons.cons.cons.cons.cons (by decide) w hm) ?_
  refine G.bin rfl ⟨_, rfl, rfl, rfl⟩ rfl rfl rfl rfl rfl ?_
  refine G.yes (t := 58) rfl rfl ?_
  first | refine G.pickT rfl trivial rfl rfl rfl rfl ?_ | refine G.pickF rfl trivial rfl rfl rfl rfl ?_
  refine G.moveB rfl trivial rfl rfl rfl ?_
  refine G.moveS rfl ⟨_, rfl, rfl, rfl⟩ rfl rfl rfl ?_
  refine G.indexAddr rfl ⟨_, rfl, rfl, rfl⟩ rfl rfl Try.underlying31 I5 rfl rfl (by omega) ?_
  refine G.load (v := .int .u8 0) rfl ⟨_, rfl, rfl, rfl⟩ rfl rfl Try.underlying5 rfl rfl (fun w hm => Rd.cell_at (j := 0) (hr42 W0 _).cons (by decide) w hm) ?_
  refine G.bin rfl ⟨_, rfl, rfl, rfl⟩ rfl rfl rfl rfl rfl ?_
  refine G.yes (t := 64) rfl rfl ?_
  first | refine G.pickT rfl trivial rfl rfl rfl rfl ?_ | refine G.pickF rfl trivial rfl rfl rfl rfl ?_
  refine G.moveB rfl trivial rfl rfl rfl ?_
  refine G.moveS rfl ⟨_, rfl, rfl, rfl⟩ rfl rfl rfl ?_
  refine G.indexAddr rfl ⟨_, rfl, rfl, rfl⟩ rfl rfl Try.underlying31 I5 rfl rfl (by omega) ?_
  refine G.load (v := .int .u8 98) rfl ⟨_, rfl, rfl, rfl⟩ rfl rfl Try.underlying5 rfl rfl (fun w hm => Rd.cell_at (j := 1) (hr47 W0 _) (by decide) w hm) ?_
  refine G.bin rfl ⟨_, rfl, rfl, rfl⟩ rfl rfl rfl rfl rfl ?_
  refine G.yes (t := 70) rfl rfl ?_
  first | refine G.pickT rfl trivial rfl rfl rfl rfl ?_ | refine G.pickF rfl trivial rfl rfl rfl rfl ?_
  refine G.moveB rfl trivial rfl rfl rfl ?_
  refine G.moveP rfl ⟨_, rfl, rfl, rfl⟩ rfl rfl rfl ?_
  refine G.call E13 rfl rfl ⟨_, rfl, rfl, rfl⟩ rfl rfl (write_dead W0 [_, _, _, _, _, _, _] _ bd bl d1 hdd 9 none 0 0) rfl ?_
  rintro e L2 ⟨rfl, rfl⟩
  refine G.bin rfl ⟨_, rfl, rfl, rfl⟩ rfl rfl rfl rfl rfl ?_
  refine G.yes (t := 75) rfl rfl ?_
  first | refine G.pickT rfl trivial rfl rfl rfl rfl ?_ | refine G.pickF rfl trivial rfl rfl rfl rfl ?_
  refine G.moveB rfl trivial rfl rfl rfl ?_
  refine G.moveP rfl ⟨_, rfl, rfl, rfl⟩ rfl rfl rfl ?_
  refine G.call E16 rfl rfl ⟨_, rfl, rfl, rfl⟩ rfl rfl (flush_dead W0 [_, _, _, _, _, _, _] _ bd bl d1 hdd) rfl ?_
  rintro e L2 ⟨rfl, rfl⟩
  refine G.bin rfl ⟨_, rfl, rfl, rfl⟩ rfl rfl rfl rfl rfl ?_
  refine G.yes (t := 80) rfl rfl ?_
  first | refine G.pickT rfl trivial rfl rfl rfl rfl ?_ | refine G.pickF rfl trivial rfl rfl rfl rfl ?_
  refine G.moveB rfl trivial rfl rfl rfl ?_
  refine G.moveP rfl ⟨_, rfl, rfl, rfl⟩ rfl rfl rfl ?_
  refine G.call E24 rfl rfl ⟨_, rfl, rfl, rfl⟩ rfl rfl (calls_spec W0 [_, _, _, _, _, _, _] _ bd bl d1) rfl ?_
  rintro e L2 ⟨rfl, rfl⟩
  rw [hdc]
  refine G.bin rfl ⟨_, rfl, rfl, rfl⟩ rfl rfl rfl rfl rfl ?_
  refine G.yes (t := 85) rfl rfl ?_
  first | refine G.pickT rfl trivial rfl rfl rfl rfl ?_ | refine G.pickF rfl trivial rfl rfl rfl rfl ?_
  refine G.moveB rfl trivial rfl rfl rfl ?_
  refine G.moveP rfl ⟨_, rfl, rfl, rfl⟩ rfl rfl rfl ?_
  refine G.call E25 rfl rfl ⟨_, rfl, rfl, rfl⟩ rfl rfl (dead_spec W0 [_, _, _, _, _, _, _] _ bd bl d1) rfl ?_
  rintro e L2 ⟨rfl, rfl⟩
  rw [hdd]
  first | refine G.pickT rfl trivial rfl rfl rfl rfl ?_ | refine G.pickF rfl trivial rfl rfl rfl rfl ?_
  refine G.moveB rfl trivial rfl rfl rfl ?_
  refine G.moveP rfl ⟨_, rfl, rfl, rfl⟩ rfl rfl rfl ?_
  refine G.call E25 rfl rfl ⟨_, rfl, rfl, rfl⟩ rfl rfl (dead_spec W0 [_, _, _, _] _ be bel e0) rfl ?_
  rintro e L2 ⟨rfl, rfl⟩
  rw [hed]
  first | refine G.notD rfl ⟨_, rfl, rfl, rfl⟩ rfl rfl rfl ?_ | refine G.not rfl ⟨_, rfl, rfl, rfl⟩ rfl rfl rfl ?_
  first | refine G.pickT rfl trivial rfl rfl rfl rfl ?_ | refine G.pickF rfl trivial rfl rfl rfl rfl ?_
  refine G.assignB rfl trivial rfl rfl rfl ?_
  refine G.nil ?_
  refine C.less (fun _ h => h.tail.tail.tail.tail.tail.tail.tail.tail) ?_
  refine C.ret ?_
  -- end 
  exact ⟨rfl, _, Res.of (rs := [.tmp 0]) rfl rfl, rfl, rfl⟩
theorem none_walk (W0 : World) : FnS Try.prog W0 5 #[] [] (fun e _ => e = .returned (.bool true)) := by
  refine FnS.of (args := []) Try.func5 rfl rfl ?_
  refine C.seq ?_
  refine C.region ?_
  refine G.assignB rfl trivial rfl rfl rfl ?_
  refine G.nil ?_
  refine C.seq ?_
  refine C.region ?_
  refine G.assignP rfl trivial rfl rfl rfl ?_
  refine G.nil ?_
  refine C.seq ?_
  refine C.region ?_
  refine G.moveP rfl trivial rfl rfl rfl ?_
  refine G.call E21 rfl rfl trivial rfl rfl (read_nil W0 _ 0) rfl ?_
  rintro e L2 ⟨rfl, rfl⟩
  refine G.moveU rfl trivial rfl rfl rfl ?_
  refine G.extractL rfl trivial rfl rfl rfl rfl ?_
  refine G.extractL rfl trivial rfl rfl rfl rfl ?_
  refine G.assignS rfl trivial rfl rfl rfl ?_
  refine G.assignI rfl trivial rfl rfl rfl ?_
  refine G.nil ?_
  refine C.seq ?_
  refine C.region ?_
  refine G.moveP rfl trivial rfl rfl rfl ?_
  refine G.call E19 rfl rfl trivial rfl rfl (fuse_nil W0 _ 3) rfl ?_
  rintro e L2 ⟨rfl, rfl⟩
  refine G.nil ?_
  refine C.seq ?_
  refine C.region ?_
  refine G.call E9 rfl rfl trivial rfl rfl (beganD_spec W0 _) rfl ?_
  rintro e L2 ⟨rfl, rfl⟩
  refine G.moveB rfl trivial rfl rfl rfl ?_
  refine G.moveP rfl ⟨_, rfl, rfl, rfl⟩ rfl rfl rfl ?_
  refine G.call E23 rfl rfl ⟨_, rfl, rfl, rfl⟩ rfl rfl (len_nil W0 _) rfl ?_
  rintro e L2 ⟨rfl, rfl⟩
  refine G.bin rfl ⟨_, rfl, rfl, rfl⟩ rfl rfl rfl rfl rfl ?_
  refine G.yes (t := 15) rfl rfl ?_
  first | refine G.pickT rfl trivial rfl rfl rfl rfl ?_ | refine G.pickF rfl trivial rfl rfl rfl rfl ?_
  refine G.moveB rfl trivial rfl rfl rfl ?_
  refine G.moveI rfl ⟨_, rfl, rfl, rfl⟩ rfl rfl rfl ?_
  refine G.bin rfl ⟨_, rfl, rfl, rfl⟩ rfl rfl rfl rfl rfl ?_
  refine G.yes (t := 19) rfl rfl ?_
  first | refine G.pickT rfl trivial rfl rfl rfl rfl ?_ | refine G.pickF rfl trivial rfl rfl rfl rfl ?_
  refine G.moveB rfl trivial rfl rfl rfl ?_
  refine G.moveP rfl ⟨_, rfl, rfl, rfl⟩ rfl rfl rfl ?_
  refine G.call E13 rfl rfl ⟨_, rfl, rfl, rfl⟩ rfl rfl (write_nil W0 _ 0 none 0 0) rfl ?_
  rintro e L2 ⟨rfl, rfl⟩
  refine G.bin rfl ⟨_, rfl, rfl, rfl⟩ rfl rfl rfl rfl rfl ?_
  refine G.yes (t := 24) rfl rfl ?_
  first | refine G.pickT rfl trivial rfl rfl rfl rfl ?_ | refine G.pickF rfl trivial rfl rfl rfl rfl ?_
  refine G.moveB rfl trivial rfl rfl rfl ?_
  refine G.moveP rfl ⟨_, rfl, rfl, rfl⟩ rfl rfl rfl ?_
  refine G.call E16 rfl rfl ⟨_, rfl, rfl, rfl⟩ rfl rfl (flush_nil W0 _) rfl ?_
  rintro e L2 ⟨rfl, rfl⟩
  refine G.bin rfl ⟨_, rfl, rfl, rfl⟩ rfl rfl rfl rfl rfl ?_
  refine G.yes (t := 29) rfl rfl ?_
  first | refine G.pickT rfl trivial rfl rfl rfl rfl ?_ | refine G.pickF rfl trivial rfl rfl rfl rfl ?_
  refine G.moveB rfl trivial rfl rfl rfl ?_
  refine G.moveP rfl ⟨_, rfl, rfl, rfl⟩ rfl rfl rfl ?_
  refine G.call E22 rfl rfl ⟨_, rfl, rfl, rfl⟩ rfl rfl (loose_nil W0 _) rfl ?_
  rintro e L2 ⟨rfl, rfl⟩
  refine G.lenSlice rfl ⟨_, rfl, rfl, rfl⟩ rfl rfl Try.underlying46 rfl ?_
  refine G.bin rfl ⟨_, rfl, rfl, rfl⟩ rfl rfl rfl rfl rfl ?_
  refine G.yes (t := 35) rfl rfl ?_
  first | refine G.pickT rfl trivial rfl rfl rfl rfl ?_ | refine G.pickF rfl trivial rfl rfl rfl rfl ?_
  refine G.moveB rfl trivial rfl rfl rfl ?_
  refine G.moveP rfl ⟨_, rfl, rfl, rfl⟩ rfl rfl rfl ?_
  refine G.call E24 rfl rfl ⟨_, rfl, rfl, rfl⟩ rfl rfl (calls_nil W0 _) rfl ?_
  rintro e L2 ⟨rfl, rfl⟩
  refine G.bin rfl ⟨_, rfl, rfl, rfl⟩ rfl rfl rfl rfl rfl ?_
  refine G.yes (t := 40) rfl rfl ?_
  first | refine G.pickT rfl trivial rfl rfl rfl rfl ?_ | refine G.pickF rfl trivial rfl rfl rfl rfl ?_
  refine G.moveB rfl trivial rfl rfl rfl ?_
  refine G.moveP rfl ⟨_, rfl, rfl, rfl⟩ rfl rfl rfl ?_
  refine G.call E25 rfl rfl ⟨_, rfl, rfl, rfl⟩ rfl rfl (dead_nil W0 _) rfl ?_
  rintro e L2 ⟨rfl, rfl⟩
  first | refine G.pickT rfl trivial rfl rfl rfl rfl ?_ | refine G.pickF rfl trivial rfl rfl rfl rfl ?_
  refine G.moveB rfl trivial rfl rfl rfl ?_
  refine G.moveP rfl ⟨_, rfl, rfl, rfl⟩ rfl rfl rfl ?_
  refine G.call E17 rfl rfl ⟨_, rfl, rfl, rfl⟩ rfl rfl (crash_nil W0 _ none 0 0) rfl ?_
  rintro e L2 ⟨rfl, rfl⟩
  refine G.ptrEq rfl ⟨_, rfl, rfl, rfl⟩ rfl rfl Try.underlying24 rfl rfl ?_
  refine G.fix (d := 49) (v := .bool true) rfl ?_
  first | refine G.pickT rfl trivial rfl rfl rfl rfl ?_ | refine G.pickF rfl trivial rfl rfl rfl rfl ?_
  refine G.assignB rfl trivial rfl rfl rfl ?_
  refine G.nil ?_
  refine C.ret ?_
  -- end 
  exact ⟨rfl, _, Res.of (rs := [.tmp 0]) rfl rfl, rfl⟩
end Go.Proofs.Ytooijfnimeoeaaa
