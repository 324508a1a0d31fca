/-
  Pages that can't be read: the functions of alloc on them; AllocBad walked.
-/
import Derived.Test.YtoegcjgdaikfiaaAlS
import Derived.Test.YtoegcjgdaikfiaaAl4
namespace Go.Proofs.Ytoegcjgdaikfiaa
namespace Sht
open Go Go.SL Go.RowKit

theorem bad_R : shR (fun _ => none) (bookR noPages 1) 1 = .error 5 := by
  unfold shR
  rw [if_neg (by decide)]
  show bookR noPages 1 1 = _
  unfold bookR
  rw [if_neg (by decide), if_pos (by decide)]
section bad
variable (W0 : World) (L : List Seg) (bs : Nat)
/-- the page that says it can't be read -/
def BadP (W0 : World) (L : List Seg) (bs : Nat) : Prop := FnS Try.prog W0 19 #[.iface 29 (ptr bs)] L (fun e L' => L' = L ∧ e = .returned (.tuple #[nilS, .int .i64 5]))
theorem read_bad {S s : Seg} (h : ShIs W0 bs (fun _ => none) (bookR noPages 1) S s) : BadP W0 (s :: L) bs := by
  unfold BadP
  refine FnS.of (args := [.iface 29 (ptr bs)]) Try.func19 rfl rfl ?_
  refine C.seq ?_
  refine C.region ?_
  refine G.assignS rfl trivial rfl rfl rfl ?_
  refine G.assignI rfl trivial rfl rfl rfl ?_
  refine G.nil ?_
  refine C.seq ?_
  refine C.seq ?_
  refine C.region ?_
  first | refine G.moveW rfl trivial rfl rfl rfl ?_ | refine G.move .nilIface rfl trivial rfl rfl rfl ?_
  refine G.ifEq rfl trivial rfl rfl Try.underlying53 rfl rfl ?_
  refine G.fix (d := 7) (v := .bool false) rfl ?_
  refine G.nil ?_
  refine C.condF rfl ?_
  refine C.skip ?_
  refine C.seq ?_
  refine C.region ?_
  first | refine G.moveW rfl trivial rfl rfl rfl ?_ | refine G.move .nilIface rfl trivial rfl rfl rfl ?_
  refine G.invokeP E11 (MethP.of (by kernel_rfl) Try.underlying29) rfl rfl rfl trivial rfl rfl (spage_bad W0 bs L h 1 (by decide) 5 bad_R) rfl ?_
  rintro e L2 ⟨rfl, rfl⟩
  refine G.moveU rfl trivial rfl rfl rfl ?_
  refine G.extractL rfl trivial rfl rfl rfl rfl ?_
  refine G.extractL rfl trivial rfl rfl rfl rfl ?_
  refine G.assignS rfl trivial rfl rfl rfl ?_
  refine G.assignI rfl trivial rfl rfl rfl ?_
  refine G.nil ?_
  refine C.seq ?_
  refine C.block ?_
  refine C.seq ?_
  refine C.region ?_
  refine G.moveI rfl trivial rfl rfl rfl ?_
  refine G.bin rfl trivial rfl rfl rfl rfl rfl ?_
  refine G.assignB rfl trivial rfl rfl rfl ?_
  refine G.nil ?_
  refine C.yes rfl (by simp) ?_
  refine C.seq ?_
  refine C.region ?_
  refine G.moveI rfl trivial rfl rfl rfl ?_
  refine G.assignS rfl trivial rfl rfl rfl ?_
  refine G.assignI rfl trivial rfl rfl rfl ?_
  refine G.nil ?_
  refine C.ret ?_
  -- end 
  exact ⟨rfl, _, Res.of (rs := [.tmp 2, .tmp 3]) rfl rfl, rfl, rfl⟩
theorem root_bad (hread : BadP W0 L bs) : FnS Try.prog W0 17 #[.iface 29 (ptr bs)] L (fun e L' => L' = L ∧ e = .returned (.tuple #[.int .i64 0, .int .i64 5])) := by
  refine FnS.of (args := [.iface 29 (ptr bs)]) Try.func17 rfl rfl ?_
  refine C.seq ?_
  refine C.region ?_
  refine G.assignI rfl trivial rfl rfl rfl ?_
  refine G.assignI rfl trivial rfl rfl rfl ?_
  refine G.nil ?_
  refine C.seq ?_
  refine C.region ?_
  first | refine G.moveW rfl trivial rfl rfl rfl ?_ | refine G.move .nilIface rfl trivial rfl rfl rfl ?_
  refine G.call E19 rfl rfl trivial rfl rfl hread rfl ?_
  rintro e L2 ⟨rfl, rfl⟩
  refine G.moveU rfl trivial rfl rfl rfl ?_
  refine G.extractL rfl trivial rfl rfl rfl rfl ?_
  refine G.extractL rfl trivial rfl rfl rfl rfl ?_
  refine G.assignS rfl trivial rfl rfl rfl ?_
  refine G.assignI rfl trivial rfl rfl rfl ?_
  refine G.nil ?_
  refine C.seq ?_
  refine C.seq ?_
  refine C.region ?_
  refine G.moveI rfl trivial rfl rfl rfl ?_
  refine G.bin rfl trivial rfl rfl rfl rfl rfl ?_
  refine G.nil ?_
  refine C.yes rfl (by simp) ?_
  refine C.seq ?_
  refine C.region ?_
  refine G.moveI rfl trivial rfl rfl rfl ?_
  refine G.assignI rfl trivial rfl rfl rfl ?_
  refine G.assignI rfl trivial rfl rfl rfl ?_
  refine G.nil ?_
  refine C.ret ?_
  -- end 
  exact ⟨rfl, _, Res.of (rs := [.tmp 2, .tmp 3]) rfl rfl, rfl, rfl⟩
theorem used_bad (hread : BadP W0 L bs) (no : Int) : FnS Try.prog W0 15 #[.iface 29 (ptr bs), .int .i64 no] L (fun e L' => L' = L ∧ e = .returned (.tuple #[.bool false, .int .i64 5])) := by
  refine FnS.of (args := [.iface 29 (ptr bs), .int .i64 no]) Try.func15 rfl rfl ?_
  refine C.seq ?_
  refine C.region ?_
  refine G.assignB rfl trivial rfl rfl rfl ?_
  refine G.assignI rfl trivial rfl rfl rfl ?_
  refine G.nil ?_
  refine C.seq ?_
  refine C.region ?_
  first | refine G.moveW rfl trivial rfl rfl rfl ?_ | refine G.move .nilIface rfl trivial rfl rfl rfl ?_
  refine G.call E19 rfl rfl trivial rfl rfl hread rfl ?_
  rintro e L2 ⟨rfl, rfl⟩
  refine G.moveU rfl trivial rfl rfl rfl ?_
  refine G.extractL rfl trivial rfl rfl rfl rfl ?_
  refine G.extractL rfl trivial rfl rfl rfl rfl ?_
  refine G.assignS rfl trivial rfl rfl rfl ?_
  refine G.assignI rfl trivial rfl rfl rfl ?_
  refine G.nil ?_
  refine C.seq ?_
  refine C.seq ?_
  refine C.region ?_
  refine G.moveI rfl trivial rfl rfl rfl ?_
  refine G.bin rfl trivial rfl rfl rfl rfl rfl ?_
  refine G.nil ?_
  refine C.yes rfl (by simp) ?_
  refine C.seq ?_
  refine C.region ?_
  refine G.moveI rfl trivial rfl rfl rfl ?_
  refine G.assignB rfl trivial rfl rfl rfl ?_
  refine G.assignI rfl trivial rfl rfl rfl ?_
  refine G.nil ?_
  refine C.ret ?_
  -- end 
  exact ⟨rfl, _, Res.of (rs := [.tmp 4, .tmp 5]) rfl rfl, rfl, rfl⟩
theorem take_bad (hread : BadP W0 L bs) : FnS Try.prog W0 10 #[ptr bs] L (fun e L' => L' = L ∧ e = .returned (.tuple #[.int .i64 0, .int .i64 5])) := by
  refine FnS.of (args := [ptr bs]) Try.func10 rfl rfl ?_
  refine C.seq ?_
  refine C.region ?_
  refine G.assignI rfl trivial rfl rfl rfl ?_
  refine G.assignI rfl trivial rfl rfl rfl ?_
  refine G.nil ?_
  refine C.seq ?_
  refine C.region ?_
  refine G.moveP rfl trivial rfl rfl rfl ?_
  refine G.makeInterface rfl trivial rfl rfl Try.underlying29 rfl ?_
  refine G.call E19 rfl rfl trivial rfl rfl hread rfl ?_
  rintro e L2 ⟨rfl, rfl⟩
  refine G.moveU rfl trivial rfl rfl rfl ?_
  refine G.extractL rfl trivial rfl rfl rfl rfl ?_
  refine G.extractL rfl trivial rfl rfl rfl rfl ?_
  refine G.assignS rfl trivial rfl rfl rfl ?_
  refine G.assignI rfl trivial rfl rfl rfl ?_
  refine G.nil ?_
  refine C.seq ?_
  refine C.seq ?_
  refine C.region ?_
  refine G.moveI rfl trivial rfl rfl rfl ?_
  refine G.bin rfl trivial rfl rfl rfl rfl rfl ?_
  refine G.nil ?_
  refine C.yes rfl (by simp) ?_
  refine C.seq ?_
  refine C.region ?_
  refine G.moveI rfl trivial rfl rfl rfl ?_
  refine G.assignI rfl trivial rfl rfl rfl ?_
  refine G.assignI rfl trivial rfl rfl rfl ?_
  refine G.nil ?_
  refine C.ret ?_
  -- end 
  exact ⟨rfl, _, Res.of (rs := [.tmp 2, .tmp 3]) rfl rfl, rfl, rfl⟩
theorem count_bad (hread : BadP W0 L bs) : FnS Try.prog W0 16 #[.iface 29 (ptr bs)] L (fun e L' => L' = L ∧ e = .returned (.tuple #[.int .i64 0, .int .i64 5])) := by
  refine FnS.of (args := [.iface 29 (ptr bs)]) Try.func16 rfl rfl ?_
  refine C.seq ?_
  refine C.region ?_
  refine G.assignI rfl trivial rfl rfl rfl ?_
  refine G.assignI rfl trivial rfl rfl rfl ?_
  refine G.nil ?_
  refine C.seq ?_
  refine C.region ?_
  first | refine G.moveW rfl trivial rfl rfl rfl ?_ | refine G.move .nilIface rfl trivial rfl rfl rfl ?_
  refine G.call E19 rfl rfl trivial rfl rfl hread rfl ?_
  rintro e L2 ⟨rfl, rfl⟩
  refine G.moveU rfl trivial rfl rfl rfl ?_
  refine G.extractL rfl trivial rfl rfl rfl rfl ?_
  refine G.extractL rfl trivial rfl rfl rfl rfl ?_
  refine G.assignS rfl trivial rfl rfl rfl ?_
  refine G.assignI rfl trivial rfl rfl rfl ?_
  refine G.nil ?_
  refine C.seq ?_
  refine C.seq ?_
  refine C.region ?_
  refine G.moveI rfl trivial rfl rfl rfl ?_
  refine G.bin rfl trivial rfl rfl rfl rfl rfl ?_
  refine G.nil ?_
  refine C.yes rfl (by simp) ?_
  refine C.seq ?_
  refine C.region ?_
  refine G.moveI rfl trivial rfl rfl rfl ?_
  refine G.assignI rfl trivial rfl rfl rfl ?_
  refine G.assignI rfl trivial rfl rfl rfl ?_
  refine G.nil ?_
  refine C.ret ?_
  -- end 
  exact ⟨rfl, _, Res.of (rs := [.tmp 2, .tmp 3]) rfl rfl, rfl, rfl⟩
theorem free_bad (hread : BadP W0 L bs) (no : Int) : FnS Try.prog W0 13 #[ptr bs, .int .i64 no] L (fun e L' => L' = L ∧ e = .returned (.int .i64 5)) := by
  refine FnS.of (args := [ptr bs, .int .i64 no]) Try.func13 rfl rfl ?_
  refine C.seq ?_
  refine C.region ?_
  refine G.assignI rfl trivial rfl rfl rfl ?_
  refine G.nil ?_
  refine C.seq ?_
  refine C.region ?_
  refine G.moveP rfl trivial rfl rfl rfl ?_
  refine G.makeInterface rfl trivial rfl rfl Try.underlying29 rfl ?_
  refine G.call E19 rfl rfl trivial rfl rfl hread rfl ?_
  rintro e L2 ⟨rfl, rfl⟩
  refine G.moveU rfl trivial rfl rfl rfl ?_
  refine G.extractL rfl trivial rfl rfl rfl rfl ?_
  refine G.extractL rfl trivial rfl rfl rfl rfl ?_
  refine G.assignS rfl trivial rfl rfl rfl ?_
  refine G.assignI rfl trivial rfl rfl rfl ?_
  refine G.nil ?_
  refine C.seq ?_
  refine C.block ?_
  refine C.seq ?_
  refine C.region ?_
  refine G.moveI rfl trivial rfl rfl rfl ?_
  refine G.bin rfl trivial rfl rfl rfl rfl rfl ?_
  refine G.assignB rfl trivial rfl rfl rfl ?_
  refine G.nil ?_
  refine C.yes rfl (by simp) ?_
  refine C.seq ?_
  refine C.region ?_
  refine G.moveI rfl trivial rfl rfl rfl ?_
  refine G.assignI rfl trivial rfl rfl rfl ?_
  refine G.nil ?_
  refine C.ret ?_
  -- end 
  exact ⟨rfl, _, Res.of (rs := [.tmp 4]) rfl rfl, rfl, rfl⟩
theorem setroot_err (hread : BadP W0 L bs) : FnS Try.prog W0 14 #[ptr bs, .int .i64 2] L (fun e L' => L' = L ∧ e = .returned (.int .i64 5)) := by
  refine FnS.of (args := [ptr bs, .int .i64 2]) Try.func14 rfl rfl ?_
  refine C.seq ?_
  refine C.region ?_
  refine G.assignI rfl trivial rfl rfl rfl ?_
  refine G.nil ?_
  refine C.seq ?_
  refine C.seq ?_
  refine C.region ?_
  refine G.moveI rfl trivial rfl rfl rfl ?_
  refine G.bin rfl trivial rfl rfl rfl rfl rfl ?_
  refine G.moveB rfl trivial rfl rfl rfl ?_
  refine G.yes (t := 9) rfl (by decide) ?_
  refine G.moveI rfl ⟨_, rfl, rfl, rfl⟩ rfl rfl rfl ?_
  refine G.call E23 rfl rfl ⟨_, rfl, rfl, rfl⟩ rfl rfl (is_spec W0 _ 2) rfl ?_
  rintro e L2 ⟨rfl, rfl⟩
  first | refine G.notD rfl ⟨_, rfl, rfl, rfl⟩ rfl rfl rfl ?_ | refine G.not rfl ⟨_, rfl, rfl, rfl⟩ rfl rfl rfl ?_
  first | refine G.pickT rfl trivial rfl rfl rfl rfl ?_ | refine G.pickF rfl trivial rfl rfl rfl rfl ?_
  refine G.nil ?_
  refine C.no rfl (by decide) ?_
  refine C.skip ?_
  refine C.seq ?_
  refine C.region ?_
  refine G.moveP rfl trivial rfl rfl rfl ?_
  refine G.makeInterface rfl trivial rfl rfl Try.underlying29 rfl ?_
  refine G.call E19 rfl rfl trivial rfl rfl hread rfl ?_
  rintro e L2 ⟨rfl, rfl⟩
  refine G.moveU rfl trivial rfl rfl rfl ?_
  refine G.extractL rfl trivial rfl rfl rfl rfl ?_
  refine G.extractL rfl trivial rfl rfl rfl rfl ?_
  refine G.assignS rfl trivial rfl rfl rfl ?_
  refine G.assignI rfl trivial rfl rfl rfl ?_
  refine G.nil ?_
  refine C.seq ?_
  refine C.seq ?_
  refine C.region ?_
  refine G.moveI rfl trivial rfl rfl rfl ?_
  refine G.bin rfl trivial rfl rfl rfl rfl rfl ?_
  refine G.nil ?_
  refine C.yes rfl (by simp) ?_
  refine C.seq ?_
  refine C.region ?_
  refine G.moveI rfl trivial rfl rfl rfl ?_
  refine G.assignI rfl trivial rfl rfl rfl ?_
  refine G.nil ?_
  refine C.ret ?_
  -- end 
  exact ⟨rfl, _, Res.of (rs := [.tmp 4]) rfl rfl, rfl, rfl⟩
end bad
theorem bad_walk (W0 : World) : FnS Try.prog W0 7 #[] [] (fun e _ => e = .returned (.bool true)) := by
  refine FnS.of (args := []) Try.func7 rfl rfl ?_
  refine C.seq ?_
  refine C.region ?_
  refine G.assignB rfl trivial rfl rfl rfl ?_
  refine G.nil ?_
  refine C.seq ?_
  refine C.region ?_
  refine G.buildL (cs := List.replicate 96 nilS ++ [.int .i64 1]) rfl trivial rfl rfl Try.underlying28 I28 B28 rfl rfl ?_
  refine G.boxG rfl trivial rfl rfl rfl ?_
  intro b11
  refine G.makeInterface rfl trivial rfl rfl Try.underlying24 rfl ?_
  refine G.call E9 rfl rfl trivial rfl rfl (snew_spec W0 [] (.iface 24 (ptr b11)) _ _ (.some (book_src W0 b11 (book_new b11 1)))) rfl ?_
  rintro e L2 ⟨bs, s1, h1, rfl, rfl⟩
  have hread := read_bad W0 [] bs h1
  refine G.assignP rfl trivial rfl rfl rfl ?_
  refine G.nil ?_
  refine C.seq ?_
  refine C.region ?_
  refine G.moveP rfl trivial rfl rfl rfl ?_
  refine G.makeInterface rfl trivial rfl rfl Try.underlying29 rfl ?_
  refine G.call E17 rfl rfl trivial rfl rfl (root_bad W0 _ bs hread) rfl ?_
  rintro e L2 ⟨rfl, rfl⟩
  refine G.moveU rfl trivial rfl rfl rfl ?_
  refine G.extractL rfl trivial rfl rfl rfl rfl ?_
  refine G.extractL rfl trivial rfl rfl rfl rfl ?_
  refine G.assignI rfl trivial rfl rfl rfl ?_
  refine G.assignI rfl trivial rfl rfl rfl ?_
  refine G.nil ?_
  refine C.seq ?_
  refine C.region ?_
  refine G.moveP rfl trivial rfl rfl rfl ?_
  refine G.makeInterface rfl trivial rfl rfl Try.underlying29 rfl ?_
  refine G.call E15 rfl rfl trivial rfl rfl (used_bad W0 _ bs hread 5) rfl ?_
  rintro e L2 ⟨rfl, rfl⟩
  refine G.moveU rfl trivial rfl rfl rfl ?_
  refine G.extractL rfl trivial rfl rfl rfl rfl ?_
  refine G.extractL rfl trivial rfl rfl rfl rfl ?_
  refine G.assignB rfl trivial rfl rfl rfl ?_
  refine G.assignI rfl trivial rfl rfl rfl ?_
  refine G.nil ?_
  refine C.seq ?_
  refine C.region ?_
  refine G.moveP rfl trivial rfl rfl rfl ?_
  refine G.call E10 rfl rfl trivial rfl rfl (take_bad W0 _ bs hread) rfl ?_
  rintro e L2 ⟨rfl, rfl⟩
  refine G.moveU rfl trivial rfl rfl rfl ?_
  refine G.extractL rfl trivial rfl rfl rfl rfl ?_
  refine G.extractL rfl trivial rfl rfl rfl rfl ?_
  refine G.assignI rfl trivial rfl rfl rfl ?_
  refine G.assignI rfl trivial rfl rfl rfl ?_
  refine G.nil ?_
  refine C.seq ?_
  refine C.region ?_
  refine G.moveP rfl trivial rfl rfl rfl ?_
  refine G.makeInterface rfl trivial rfl rfl Try.underlying29 rfl ?_
  refine G.call E16 rfl rfl trivial rfl rfl (count_bad W0 _ bs hread) rfl ?_
  rintro e L2 ⟨rfl, rfl⟩
  refine G.moveU rfl trivial rfl rfl rfl ?_
  refine G.extractL rfl trivial rfl rfl rfl rfl ?_
  refine G.extractL rfl trivial rfl rfl rfl rfl ?_
  refine G.assignI rfl trivial rfl rfl rfl ?_
  refine G.assignI rfl trivial rfl rfl rfl ?_
  refine G.nil ?_
  refine C.seq ?_
  refine C.region ?_
  refine G.call E8 rfl rfl trivial rfl rfl (beganA_spec W0 _) rfl ?_
  rintro e L2 ⟨rfl, rfl⟩
  refine G.moveB rfl trivial rfl rfl rfl ?_
  refine G.moveI rfl ⟨_, rfl, rfl, rfl⟩ rfl rfl rfl ?_
  refine G.bin rfl ⟨_, rfl, rfl, rfl⟩ rfl rfl rfl rfl rfl ?_
  first | refine G.pickT rfl trivial rfl rfl rfl rfl ?_ | refine G.pickF rfl trivial rfl rfl rfl rfl ?_
  refine G.moveB rfl trivial rfl rfl rfl ?_
  refine G.moveB rfl ⟨_, rfl, rfl, rfl⟩ rfl rfl rfl ?_
  first | refine G.notD rfl ⟨_, rfl, rfl, rfl⟩ rfl rfl rfl ?_ | refine G.not rfl ⟨_, rfl, rfl, rfl⟩ rfl rfl rfl ?_
  first | refine G.pickT rfl trivial rfl rfl rfl rfl ?_ | refine G.pickF rfl trivial rfl rfl rfl rfl ?_
  refine G.moveB rfl trivial rfl rfl rfl ?_
  refine G.moveI rfl ⟨_, rfl, rfl, rfl⟩ rfl rfl rfl ?_
  refine G.bin rfl ⟨_, rfl, rfl, rfl⟩ rfl rfl rfl rfl rfl ?_
  first | refine G.pickT rfl trivial rfl rfl rfl rfl ?_ | refine G.pickF rfl trivial rfl rfl rfl rfl ?_
  refine G.moveB rfl trivial rfl rfl rfl ?_
  refine G.moveI rfl ⟨_, rfl, rfl, rfl⟩ rfl rfl rfl ?_
  refine G.bin rfl ⟨_, rfl, rfl, rfl⟩ rfl rfl rfl rfl rfl ?_
  first | refine G.pickT rfl trivial rfl rfl rfl rfl ?_ | refine G.pickF rfl trivial rfl rfl rfl rfl ?_
  refine G.moveB rfl trivial rfl rfl rfl ?_
  refine G.moveI rfl ⟨_, rfl, rfl, rfl⟩ rfl rfl rfl ?_
  refine G.bin rfl ⟨_, rfl, rfl, rfl⟩ rfl rfl rfl rfl rfl ?_
  first | refine G.pickT rfl trivial rfl rfl rfl rfl ?_ | refine G.pickF rfl trivial rfl rfl rfl rfl ?_
  refine G.moveB rfl trivial rfl rfl rfl ?_
  refine G.moveI rfl ⟨_, rfl, rfl, rfl⟩ rfl rfl rfl ?_
  refine G.bin rfl ⟨_, rfl, rfl, rfl⟩ rfl rfl rfl rfl rfl ?_
  first | refine G.pickT rfl trivial rfl rfl rfl rfl ?_ | refine G.pickF rfl trivial rfl rfl rfl rfl ?_
  refine G.moveB rfl trivial rfl rfl rfl ?_
  refine G.moveP rfl ⟨_, rfl, rfl, rfl⟩ rfl rfl rfl ?_
  refine G.call E14 rfl rfl ⟨_, rfl, rfl, rfl⟩ rfl rfl (setroot_err W0 _ bs hread) rfl ?_
  rintro e L2 ⟨rfl, rfl⟩
  refine G.bin rfl ⟨_, rfl, rfl, rfl⟩ rfl rfl rfl rfl rfl ?_
  first | refine G.pickT rfl trivial rfl rfl rfl rfl ?_ | refine G.pickF rfl trivial rfl rfl rfl rfl ?_
  refine G.moveB rfl trivial rfl rfl rfl ?_
  refine G.moveP rfl ⟨_, rfl, rfl, rfl⟩ rfl rfl rfl ?_
  refine G.call E13 rfl rfl ⟨_, rfl, rfl, rfl⟩ rfl rfl (free_bad W0 _ bs hread 2) rfl ?_
  rintro e L2 ⟨rfl, rfl⟩
  refine G.bin rfl ⟨_, rfl, rfl, rfl⟩ rfl rfl rfl rfl rfl ?_
  first | refine G.pickT rfl trivial rfl rfl rfl rfl ?_ | refine G.pickF rfl trivial rfl rfl rfl rfl ?_
  refine G.moveB rfl trivial rfl rfl rfl ?_
  refine G.moveP rfl ⟨_, rfl, rfl, rfl⟩ rfl rfl rfl ?_
  refine G.call E18 rfl rfl ⟨_, rfl, rfl, rfl⟩ rfl rfl (schanges_val W0 bs [] h1 [] (chL_nil fun j hj => chg1_none rfl) 0 rfl) rfl ?_
  rintro e L2 ⟨a74, c74, s3, s4, hi74, rfl, rfl⟩
  refine G.lenSlice rfl ⟨_, rfl, rfl, rfl⟩ rfl rfl Try.underlying50 rfl ?_
  refine G.bin rfl ⟨_, rfl, rfl, rfl⟩ rfl rfl rfl rfl rfl ?_
  first | refine G.pickT rfl trivial rfl rfl rfl rfl ?_ | refine G.pickF rfl trivial rfl rfl rfl rfl ?_
  refine G.assignB rfl trivial rfl rfl rfl ?_
  refine G.nil ?_
  refine C.ret ?_
  -- end 
  exact ⟨rfl, _, Res.of (rs := [.tmp 0]) rfl rfl, rfl⟩
end Sht
end Go.Proofs.Ytoegcjgdaikfiaa
