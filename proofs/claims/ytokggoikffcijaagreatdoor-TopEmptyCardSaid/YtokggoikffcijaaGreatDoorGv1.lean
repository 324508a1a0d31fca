/-
  The device in blocks of any capacity: a new one, a sector read, what is dead, the fuse.
-/
import Derived.Test.YtokggoikffcijaaGreatDoorGv0
namespace Go.Proofs.YtokggoikffcijaaGreatDoor
open Go Go.SL Go.RowKit
abbrev ptr (b : Nat) : Value := .pointer (some ⟨b, 0, none⟩)
theorem clone_spec (W0 : World) (L : List Seg) (a : Addr) (l c : Nat) (xs : List UInt8) (hl : l = xs.length) (hx : xs.length ≤ 1000000) (hr : Rd W0 L (some a) (bytesV xs)) :
    FnS Tryz.prog W0 124 #[.slice (some a) l c] L (fun e L' => ∃ v seg, OwnS v l (bytesV xs) 5 1 seg ∧ L' = seg :: L ∧ e = .returned v) := by
  refine FnS.of (args := [.slice (some a) l c]) Tryz.func124 rfl rfl ?_
  refine C.seq ?_
  refine C.region ?_
  refine G.assignS rfl trivial rfl rfl rfl ?_
  refine G.nil ?_
  refine C.seq ?_
  refine C.seq ?_
  refine C.region ?_
  refine G.moveS rfl trivial rfl rfl rfl ?_
  refine G.slEq rfl trivial rfl rfl Tryz.underlying80 rfl rfl ?_
  refine G.nil ?_
  refine C.condF rfl ?_
  refine C.skip ?_
  refine C.seq ?_
  refine C.region ?_
  refine G.emptySlice rfl trivial rfl rfl Tryz.underlying80 I5 ?_
  intro b5
  refine G.moveS rfl trivial rfl rfl rfl ?_
  refine G.append (OwnS.empty b5 5 1) rfl trivial rfl rfl Tryz.underlying80 Tryz.underlying80 I5 rfl (by decide) rfl rfl (by decide) hr.cons (by simp [hl]) bytesV_ok (by omega) ?_
  intro v seg hv
  rw [Nat.zero_add, List.nil_append] at hv
  obtain ⟨a7, c7, rfl, hrd7⟩ := hv.form
  refine G.assignS rfl trivial rfl rfl rfl ?_
  refine G.nil ?_
  refine C.ret ?_
  -- end 
  exact ⟨rfl, _, Res.of (rs := [.tmp 2]) rfl rfl, .slice a7 l c7, seg, hv, rfl, rfl⟩

def clampN (n : Int) : Nat := if n < 1 then 1 else if 2048 < n then 2048 else n.toNat
theorem clampN_eq (n : Int) : (if 2048 < (if 1 > n then 1 else n) then 2048 else if 1 > n then 1 else n) = ((clampN n : Nat) : Int) := by
  unfold clampN
  by_cases h1 : n < 1 <;> by_cases h2 : 2048 < n <;> simp [h1, h2] <;> omega
theorem new_spec (W0 : World) (L : List Seg) (n : Int) : FnS Tryz.prog W0 34 #[.int .i64 n] L (fun e L' => ∃ bd bl, L' = devSeg 5 (clampN n * 129) bd bl (newDv (clampN n)) :: L ∧ e = .returned (ptr bd)) := by
  have hz : ∀ z, Inf Tryz.prog 119 129 129 z → zeroRow z (clampN n) 129 = secsV (List.replicate (clampN n) zeroSec) := fun z hi => by
    have h2 : Inf Tryz.prog 119 129 129 (.agg (List.replicate 128 (Value.int .u8 0) ++ [Value.bool false]).toArray) := Inf.of (by kernel_rfl)
    rw [hi.uniq h2]
    exact zeroRow_chunk (by kernel_rfl) (by kernel_rfl) _
  have hN : 1 ≤ clampN n ∧ clampN n ≤ 2048 := by unfold clampN; split <;> (try split) <;> omega
  refine FnS.of (args := [.int .i64 n]) Tryz.func34 rfl rfl ?_
  refine C.seq ?_
  refine C.region ?_
  refine G.assignP rfl trivial rfl rfl rfl ?_
  refine G.nil ?_
  refine C.seq ?_
  refine C.region ?_
  refine G.moveI rfl trivial rfl rfl rfl ?_
  refine G.max2 rfl trivial rfl rfl rfl rfl ?_
  refine G.min2 rfl trivial rfl rfl rfl rfl ?_
  refine G.fix (d := 5) (v := .int .i64 (clampN n : Nat)) (by show Value.int .i64 _ = _; congr 1; exact clampN_eq n) ?_
  refine G.makeSlice rfl trivial rfl rfl Tryz.underlying114 I119 rfl rfl rfl (by omega) ?_
  intro b6
  rw [show ((clampN n : Nat) : Int).toNat = clampN n by omega, hz _ I119]
  refine G.buildL (cs := [.slice (some ⟨b6, 0, none⟩) (clampN n) (clampN n), .int .i64 0, .bool false, .int .i64 0, .bool false]) rfl trivial rfl rfl Tryz.underlying116 I116 B116 rfl rfl ?_
  refine G.boxG rfl trivial rfl rfl rfl ?_
  intro b8
  refine G.assignP rfl trivial rfl rfl rfl ?_
  refine G.nil ?_
  refine C.less (fun _ h => h.join) ?_
  refine C.ret ?_
  -- end 
  exact ⟨rfl, _, Res.of (rs := [.tmp 2]) rfl rfl, b8, b6, by simp [newDv], rfl⟩

section dev
variable (W0 : World) (S L0 : List Seg) (kd kl bd bl : Nat) (d : Dv)
def atE (i : Int) : Int := if 0 ≤ i ∧ i < d.l.length then 0 else 3
theorem at_spec (i : Int) : FnS Tryz.prog W0 294 #[ptr bd, .int .i64 i] (S ++ (devSeg kd kl bd bl d :: L0)) (fun e L' => L' = S ++ (devSeg kd kl bd bl d :: L0) ∧ e = .returned (.int .i64 (atE d i))) := by
  refine FnS.of (args := [ptr bd, .int .i64 i]) Tryz.func294 rfl rfl ?_
  refine C.seq ?_
  refine C.region ?_
  refine G.assignI rfl trivial rfl rfl rfl ?_
  refine G.nil ?_
  refine C.seq ?_
  refine C.block ?_
  refine C.seq ?_
  refine C.region ?_
  refine G.moveP rfl trivial rfl rfl rfl ?_
  refine G.ptrEq rfl trivial rfl rfl Tryz.underlying39 rfl rfl ?_
  refine G.assignB rfl trivial rfl rfl rfl ?_
  refine G.nil ?_
  refine C.condF rfl ?_
  refine C.seq ?_
  refine C.region ?_
  refine G.moveI rfl trivial rfl rfl rfl ?_
  refine G.bin rfl trivial rfl rfl rfl rfl rfl ?_
  refine G.moveB rfl trivial rfl rfl rfl ?_
  refine G.fork (t := 11) _ rfl ?_ ?_
  · intro hg11
    refine G.skip rfl rfl rfl rfl rfl rfl ?_
    refine G.skip rfl rfl rfl rfl rfl rfl ?_
    refine G.skip rfl rfl rfl rfl rfl rfl ?_
    refine G.skip rfl rfl rfl rfl rfl rfl ?_
    refine G.skip rfl rfl rfl rfl rfl rfl ?_
    refine G.skip rfl rfl rfl rfl rfl rfl ?_
    refine G.skip rfl rfl rfl rfl rfl rfl ?_
    first | refine G.pickT rfl trivial rfl rfl rfl rfl ?_ | refine G.pickF rfl trivial rfl rfl rfl rfl ?_
    refine G.assignB rfl trivial rfl rfl rfl ?_
    refine G.nil ?_
    refine C.condT rfl ?_
    refine C.seq ?_
    refine C.region ?_
    refine G.assignI rfl trivial rfl rfl rfl ?_
    refine G.nil ?_
    refine C.ret ?_
    -- end g11T
    exact ⟨rfl, _, Res.of (rs := [.tmp 4]) rfl rfl, rfl, by unfold atE; rw [if_neg (by omega)]; rfl⟩
  · intro hg11
    refine G.moveI rfl ⟨_, rfl, rfl, rfl⟩ rfl rfl rfl ?_
    refine G.moveP rfl ⟨_, rfl, rfl, rfl⟩ rfl rfl rfl ?_
    first | refine G.nilCheckP rfl ⟨_, rfl, rfl, rfl⟩ rfl rfl rfl ?_ | refine G.nilCheckF rfl ⟨_, rfl, rfl, rfl⟩ rfl rfl rfl ?_
    refine G.fieldAddr rfl ⟨_, rfl, rfl, rfl⟩ rfl rfl Tryz.underlying116 rfl I114 rfl rfl ?_
    refine G.loadAt (by first | exact .here | exact .next .here | exact .next (.next .here) | exact .next (.next (.next .here)) | exact .next (.next (.next (.next .here))) | exact .next (.next (.next (.next (.next .here)))) | exact .next (.next (.next (.next (.next (.next .here))))) | exact .next (.next (.next (.next (.next (.next (.next .here)))))) | exact .in1 | exact .next .in1 | exact .next (.next .in1) | exact .next (.next (.next .in1)) | exact .next (.next (.next (.next .in1))) | exact .in2 | exact .next .in2 | exact .next (.next .in2) | exact .next (.next (.next .in2)) | exact .next (.next (.next (.next .in2))) | exact .app .here | exact .app (.next .here) | exact .app (.next (.next .here)) | exact .app (.next (.next (.next .here))) | exact .app (.next (.next (.next (.next .here)))) | exact .app (.next (.next (.next (.next (.next .here))))) | exact .app (.next (.next (.next (.next (.next (.next .here)))))) | exact .app (.next (.next (.next (.next (.next (.next (.next .here))))))) | exact .app .in1 | exact .app .in2 | exact .app (.next .in1) | exact .next (.app .in1) | exact .next (.next (.app .in1)) | exact .next (.app .here) | exact .next (.next (.app .here)) | exact .next (.next (.next (.app .here))) | exact .next (.next (.next (.next (.app .here))))) rfl ⟨_, rfl, rfl, rfl⟩ rfl rfl Tryz.underlying114 rfl rfl (by rfl) ?_
    refine G.lenSlice rfl ⟨_, rfl, rfl, rfl⟩ rfl rfl Tryz.underlying114 rfl ?_
    refine G.bin rfl ⟨_, rfl, rfl, rfl⟩ rfl rfl rfl rfl rfl ?_
    first | refine G.pickT rfl trivial rfl rfl rfl rfl ?_ | refine G.pickF rfl trivial rfl rfl rfl rfl ?_
    refine G.assignB rfl trivial rfl rfl rfl ?_
    refine G.nil ?_
    refine C.cond _ rfl ?_ ?_
    · intro hc1
      refine C.seq ?_
      refine C.region ?_
      refine G.assignI rfl trivial rfl rfl rfl ?_
      refine G.nil ?_
      refine C.ret ?_
      -- end g11Fc1T
      exact ⟨rfl, _, Res.of (rs := [.tmp 4]) rfl rfl, rfl, by unfold atE; rw [if_neg (by omega)]; rfl⟩
    · intro hc1
      refine C.skip ?_
      refine C.seq ?_
      refine C.region ?_
      refine G.assignI rfl trivial rfl rfl rfl ?_
      refine G.nil ?_
      refine C.ret ?_
      -- end g11Fc1F
      exact ⟨rfl, _, Res.of (rs := [.tmp 4]) rfl rfl, rfl, by unfold atE; rw [if_pos (by omega)]; rfl⟩
theorem dead_spec : FnS Tryz.prog W0 230 #[ptr bd] (S ++ (devSeg kd kl bd bl d :: L0)) (fun e L' => L' = S ++ (devSeg kd kl bd bl d :: L0) ∧ e = .returned (.bool d.isDead)) := by
  obtain ⟨l, calls, lit, fuse, dead⟩ := d
  refine FnS.of (args := [ptr bd]) Tryz.func230 rfl rfl ?_
  refine C.seq ?_
  refine C.region ?_
  refine G.assignB rfl trivial rfl rfl rfl ?_
  refine G.nil ?_
  refine C.seq ?_
  refine C.region ?_
  refine G.moveP rfl trivial rfl rfl rfl ?_
  refine G.ptrEq rfl trivial rfl rfl Tryz.underlying39 rfl rfl ?_
  refine G.moveB rfl trivial rfl rfl rfl ?_
  refine G.moveP rfl ⟨_, rfl, rfl, rfl⟩ rfl rfl rfl ?_
  first | refine G.nilCheckP rfl ⟨_, rfl, rfl, rfl⟩ rfl rfl rfl ?_ | refine G.nilCheckF rfl ⟨_, rfl, rfl, rfl⟩ rfl rfl rfl ?_
  refine G.fieldAddr rfl ⟨_, rfl, rfl, rfl⟩ rfl rfl Tryz.underlying116 rfl I4 rfl rfl ?_
  refine G.loadAt (by first | exact .here | exact .next .here | exact .next (.next .here) | exact .next (.next (.next .here)) | exact .next (.next (.next (.next .here))) | exact .next (.next (.next (.next (.next .here)))) | exact .next (.next (.next (.next (.next (.next .here))))) | exact .next (.next (.next (.next (.next (.next (.next .here)))))) | exact .in1 | exact .next .in1 | exact .next (.next .in1) | exact .next (.next (.next .in1)) | exact .next (.next (.next (.next .in1))) | exact .in2 | exact .next .in2 | exact .next (.next .in2) | exact .next (.next (.next .in2)) | exact .next (.next (.next (.next .in2))) | exact .app .here | exact .app (.next .here) | exact .app (.next (.next .here)) | exact .app (.next (.next (.next .here))) | exact .app (.next (.next (.next (.next .here)))) | exact .app (.next (.next (.next (.next (.next .here))))) | exact .app (.next (.next (.next (.next (.next (.next .here)))))) | exact .app (.next (.next (.next (.next (.next (.next (.next .here))))))) | exact .app .in1 | exact .app .in2 | exact .app (.next .in1) | exact .next (.app .in1) | exact .next (.next (.app .in1)) | exact .next (.app .here) | exact .next (.next (.app .here)) | exact .next (.next (.next (.app .here))) | exact .next (.next (.next (.next (.app .here))))) rfl ⟨_, rfl, rfl, rfl⟩ rfl rfl Tryz.underlying4 rfl rfl (by rfl) ?_
  first | refine G.pickT rfl trivial rfl rfl rfl rfl ?_ | refine G.pickF rfl trivial rfl rfl rfl rfl ?_
  refine G.moveB rfl trivial rfl rfl rfl ?_
  refine G.forkB (t := 11) _ rfl ?_ ?_
  · intro hg11
    refine G.skip rfl rfl rfl rfl rfl rfl ?_
    refine G.skip rfl rfl rfl rfl rfl rfl ?_
    refine G.skip rfl rfl rfl rfl rfl rfl ?_
    refine G.skip rfl rfl rfl rfl rfl rfl ?_
    refine G.skip rfl rfl rfl rfl rfl rfl ?_
    refine G.skipU rfl rfl rfl rfl rfl rfl ?_
    refine G.skipU rfl rfl rfl rfl rfl rfl ?_
    refine G.skipU rfl rfl rfl rfl rfl rfl ?_
    refine G.skipU rfl rfl rfl rfl rfl rfl ?_
    refine G.skipU rfl rfl rfl rfl rfl rfl ?_
    refine G.skip rfl rfl rfl rfl rfl rfl ?_
    first | refine G.pickT rfl trivial rfl rfl rfl rfl ?_ | refine G.pickF rfl trivial rfl rfl rfl rfl ?_
    refine G.assignB rfl trivial rfl rfl rfl ?_
    refine G.nil ?_
    refine C.ret ?_
    -- end g11T
    exact ⟨rfl, _, Res.of (rs := [.tmp 2]) rfl rfl, rfl, by subst_vars; rfl⟩
  · intro hg11
    refine G.moveP rfl ⟨_, rfl, rfl, rfl⟩ rfl rfl rfl ?_
    first | refine G.nilCheckP rfl ⟨_, rfl, rfl, rfl⟩ rfl rfl rfl ?_ | refine G.nilCheckF rfl ⟨_, rfl, rfl, rfl⟩ rfl rfl rfl ?_
    refine G.fieldAddr rfl ⟨_, rfl, rfl, rfl⟩ rfl rfl Tryz.underlying116 rfl I4 rfl rfl ?_
    refine G.loadAt (by first | exact .here | exact .next .here | exact .next (.next .here) | exact .next (.next (.next .here)) | exact .next (.next (.next (.next .here))) | exact .next (.next (.next (.next (.next .here)))) | exact .next (.next (.next (.next (.next (.next .here))))) | exact .next (.next (.next (.next (.next (.next (.next .here)))))) | exact .in1 | exact .next .in1 | exact .next (.next .in1) | exact .next (.next (.next .in1)) | exact .next (.next (.next (.next .in1))) | exact .in2 | exact .next .in2 | exact .next (.next .in2) | exact .next (.next (.next .in2)) | exact .next (.next (.next (.next .in2))) | exact .app .here | exact .app (.next .here) | exact .app (.next (.next .here)) | exact .app (.next (.next (.next .here))) | exact .app (.next (.next (.next (.next .here)))) | exact .app (.next (.next (.next (.next (.next .here))))) | exact .app (.next (.next (.next (.next (.next (.next .here)))))) | exact .app (.next (.next (.next (.next (.next (.next (.next .here))))))) | exact .app .in1 | exact .app .in2 | exact .app (.next .in1) | exact .next (.app .in1) | exact .next (.next (.app .in1)) | exact .next (.app .here) | exact .next (.next (.app .here)) | exact .next (.next (.next (.app .here))) | exact .next (.next (.next (.next (.app .here))))) rfl ⟨_, rfl, rfl, rfl⟩ rfl rfl Tryz.underlying4 rfl rfl (by rfl) ?_
    refine G.moveB rfl ⟨_, rfl, rfl, rfl⟩ rfl rfl rfl ?_
    refine G.forkB (t := 16) _ rfl ?_ ?_
    · intro hg16
      refine G.moveP rfl ⟨_, rfl, rfl, rfl⟩ rfl rfl rfl ?_
      first | refine G.nilCheckP rfl ⟨_, rfl, rfl, rfl⟩ rfl rfl rfl ?_ | refine G.nilCheckF rfl ⟨_, rfl, rfl, rfl⟩ rfl rfl rfl ?_
      refine G.fieldAddr rfl ⟨_, rfl, rfl, rfl⟩ rfl rfl Tryz.underlying116 rfl I3 rfl rfl ?_
      refine G.loadAt (by first | exact .here | exact .next .here | exact .next (.next .here) | exact .next (.next (.next .here)) | exact .next (.next (.next (.next .here))) | exact .next (.next (.next (.next (.next .here)))) | exact .next (.next (.next (.next (.next (.next .here))))) | exact .next (.next (.next (.next (.next (.next (.next .here)))))) | exact .in1 | exact .next .in1 | exact .next (.next .in1) | exact .next (.next (.next .in1)) | exact .next (.next (.next (.next .in1))) | exact .in2 | exact .next .in2 | exact .next (.next .in2) | exact .next (.next (.next .in2)) | exact .next (.next (.next (.next .in2))) | exact .app .here | exact .app (.next .here) | exact .app (.next (.next .here)) | exact .app (.next (.next (.next .here))) | exact .app (.next (.next (.next (.next .here)))) | exact .app (.next (.next (.next (.next (.next .here))))) | exact .app (.next (.next (.next (.next (.next (.next .here)))))) | exact .app (.next (.next (.next (.next (.next (.next (.next .here))))))) | exact .app .in1 | exact .app .in2 | exact .app (.next .in1) | exact .next (.app .in1) | exact .next (.next (.app .in1)) | exact .next (.app .here) | exact .next (.next (.app .here)) | exact .next (.next (.next (.app .here))) | exact .next (.next (.next (.next (.app .here))))) rfl ⟨_, rfl, rfl, rfl⟩ rfl rfl Tryz.underlying3 rfl rfl (by rfl) ?_
      refine G.bin rfl ⟨_, rfl, rfl, rfl⟩ rfl rfl rfl rfl rfl ?_
      first | refine G.pickT rfl ⟨_, rfl, rfl, rfl⟩ rfl rfl rfl rfl ?_ | refine G.pickF rfl ⟨_, rfl, rfl, rfl⟩ rfl rfl rfl rfl ?_
      first | refine G.pickT rfl trivial rfl rfl rfl rfl ?_ | refine G.pickF rfl trivial rfl rfl rfl rfl ?_
      refine G.assignB rfl trivial rfl rfl rfl ?_
      refine G.nil ?_
      refine C.ret ?_
      -- end g11Fg16T
      exact ⟨rfl, _, Res.of (rs := [.tmp 2]) rfl rfl, rfl, by subst_vars; rfl⟩
    · intro hg16
      refine G.skip rfl rfl rfl rfl rfl rfl ?_
      refine G.skip rfl rfl rfl rfl rfl rfl ?_
      refine G.skip rfl rfl rfl rfl rfl rfl ?_
      refine G.skip rfl rfl rfl rfl rfl rfl ?_
      refine G.skip rfl rfl rfl rfl rfl rfl ?_
      first | refine G.pickT rfl ⟨_, rfl, rfl, rfl⟩ rfl rfl rfl rfl ?_ | refine G.pickF rfl ⟨_, rfl, rfl, rfl⟩ rfl rfl rfl rfl ?_
      first | refine G.pickT rfl trivial rfl rfl rfl rfl ?_ | refine G.pickF rfl trivial rfl rfl rfl rfl ?_
      refine G.assignB rfl trivial rfl rfl rfl ?_
      refine G.nil ?_
      refine C.ret ?_
      -- end g11Fg16F
      exact ⟨rfl, _, Res.of (rs := [.tmp 2]) rfl rfl, rfl, by subst_vars; rfl⟩
theorem burns_spec (hd : d.ok) : FnS Tryz.prog W0 231 #[ptr bd] (S ++ (devSeg kd kl bd bl d :: L0)) (fun e L' => L' = S ++ (devSeg kd kl bd bl d.burn :: L0) ∧ e = .returned (.tuple #[])) := by
  obtain ⟨l, calls, lit, fuse, dead⟩ := d
  obtain ⟨h1, h2, h3, h4⟩ := hd
  simp only at h3 h4
  refine FnS.of (args := [ptr bd]) Tryz.func231 rfl rfl ?_
  refine C.seq ?_
  refine C.seq ?_
  refine C.region ?_
  refine G.moveP rfl trivial rfl rfl rfl ?_
  first | refine G.nilCheckP rfl trivial rfl rfl rfl ?_ | refine G.nilCheckF rfl trivial rfl rfl rfl ?_
  refine G.fieldAddr rfl trivial rfl rfl Tryz.underlying116 rfl I4 rfl rfl ?_
  refine G.loadAt (by first | exact .here | exact .next .here | exact .next (.next .here) | exact .next (.next (.next .here)) | exact .next (.next (.next (.next .here))) | exact .next (.next (.next (.next (.next .here)))) | exact .next (.next (.next (.next (.next (.next .here))))) | exact .next (.next (.next (.next (.next (.next (.next .here)))))) | exact .in1 | exact .next .in1 | exact .next (.next .in1) | exact .next (.next (.next .in1)) | exact .next (.next (.next (.next .in1))) | exact .in2 | exact .next .in2 | exact .next (.next .in2) | exact .next (.next (.next .in2)) | exact .next (.next (.next (.next .in2))) | exact .app .here | exact .app (.next .here) | exact .app (.next (.next .here)) | exact .app (.next (.next (.next .here))) | exact .app (.next (.next (.next (.next .here)))) | exact .app (.next (.next (.next (.next (.next .here))))) | exact .app (.next (.next (.next (.next (.next (.next .here)))))) | exact .app (.next (.next (.next (.next (.next (.next (.next .here))))))) | exact .app .in1 | exact .app .in2 | exact .app (.next .in1) | exact .next (.app .in1) | exact .next (.next (.app .in1)) | exact .next (.app .here) | exact .next (.next (.app .here)) | exact .next (.next (.next (.app .here))) | exact .next (.next (.next (.next (.app .here))))) rfl trivial rfl rfl Tryz.underlying4 rfl rfl (by rfl) ?_
  refine G.nil ?_
  refine C.condB _ rfl ?_ ?_
  · intro hc0
    refine C.region ?_
    refine G.moveP rfl trivial rfl rfl rfl ?_
    first | refine G.nilCheckP rfl trivial rfl rfl rfl ?_ | refine G.nilCheckF rfl trivial rfl rfl rfl ?_
    refine G.fieldAddr rfl trivial rfl rfl Tryz.underlying116 rfl I3 rfl rfl ?_
    refine G.loadAt (by first | exact .here | exact .next .here | exact .next (.next .here) | exact .next (.next (.next .here)) | exact .next (.next (.next (.next .here))) | exact .next (.next (.next (.next (.next .here)))) | exact .next (.next (.next (.next (.next (.next .here))))) | exact .next (.next (.next (.next (.next (.next (.next .here)))))) | exact .in1 | exact .next .in1 | exact .next (.next .in1) | exact .next (.next (.next .in1)) | exact .next (.next (.next (.next .in1))) | exact .in2 | exact .next .in2 | exact .next (.next .in2) | exact .next (.next (.next .in2)) | exact .next (.next (.next (.next .in2))) | exact .app .here | exact .app (.next .here) | exact .app (.next (.next .here)) | exact .app (.next (.next (.next .here))) | exact .app (.next (.next (.next (.next .here)))) | exact .app (.next (.next (.next (.next (.next .here))))) | exact .app (.next (.next (.next (.next (.next (.next .here)))))) | exact .app (.next (.next (.next (.next (.next (.next (.next .here))))))) | exact .app .in1 | exact .app .in2 | exact .app (.next .in1) | exact .next (.app .in1) | exact .next (.next (.app .in1)) | exact .next (.app .here) | exact .next (.next (.app .here)) | exact .next (.next (.next (.app .here))) | exact .next (.next (.next (.next (.app .here))))) rfl trivial rfl rfl Tryz.underlying3 rfl rfl (by rfl) ?_
    refine G.sub rfl trivial rfl rfl rfl rfl (by show _ ≤ fuse - 1 ∧ fuse - 1 ≤ _; omega) ?_
    first | refine G.nilCheckP rfl trivial rfl rfl rfl ?_ | refine G.nilCheckF rfl trivial rfl rfl rfl ?_
    refine G.fieldAddr rfl trivial rfl rfl Tryz.underlying116 rfl I3 rfl rfl ?_
    refine G.store (v := .int _ _) (by first | exact .here | exact .next .here | exact .next (.next .here) | exact .next (.next (.next .here)) | exact .next (.next (.next (.next .here))) | exact .next (.next (.next (.next (.next .here)))) | exact .next (.next (.next (.next (.next (.next .here))))) | exact .next (.next (.next (.next (.next (.next (.next .here)))))) | exact .in1 | exact .next .in1 | exact .next (.next .in1) | exact .next (.next (.next .in1)) | exact .next (.next (.next (.next .in1))) | exact .in2 | exact .next .in2 | exact .next (.next .in2) | exact .next (.next (.next .in2)) | exact .next (.next (.next (.next .in2))) | exact .app .here | exact .app (.next .here) | exact .app (.next (.next .here)) | exact .app (.next (.next (.next .here))) | exact .app (.next (.next (.next (.next .here)))) | exact .app (.next (.next (.next (.next (.next .here))))) | exact .app (.next (.next (.next (.next (.next (.next .here)))))) | exact .app (.next (.next (.next (.next (.next (.next (.next .here))))))) | exact .app .in1 | exact .app .in2 | exact .app (.next .in1) | exact .next (.app .in1) | exact .next (.next (.app .in1)) | exact .next (.app .here) | exact .next (.next (.app .here)) | exact .next (.next (.next (.app .here))) | exact .next (.next (.next (.next (.app .here))))) rfl trivial rfl I3 rfl rfl rfl (by first | decide | (simp; done) | (simp; omega)) _ (by first | (simp only [List.set_cons_succ, List.set_cons_zero]; done) | (simp only [List.set_cons_succ, List.set_cons_zero]; exact rfl) | exact rfl) ?_
    refine G.nil ?_
    refine C.region ?_
    refine G.moveP rfl trivial rfl rfl rfl ?_
    first | refine G.nilCheckP rfl trivial rfl rfl rfl ?_ | refine G.nilCheckF rfl trivial rfl rfl rfl ?_
    refine G.fieldAddr rfl trivial rfl rfl Tryz.underlying116 rfl I3 rfl rfl ?_
    refine G.loadAt (by first | exact .here | exact .next .here | exact .next (.next .here) | exact .next (.next (.next .here)) | exact .next (.next (.next (.next .here))) | exact .next (.next (.next (.next (.next .here)))) | exact .next (.next (.next (.next (.next (.next .here))))) | exact .next (.next (.next (.next (.next (.next (.next .here)))))) | exact .in1 | exact .next .in1 | exact .next (.next .in1) | exact .next (.next (.next .in1)) | exact .next (.next (.next (.next .in1))) | exact .in2 | exact .next .in2 | exact .next (.next .in2) | exact .next (.next (.next .in2)) | exact .next (.next (.next (.next .in2))) | exact .app .here | exact .app (.next .here) | exact .app (.next (.next .here)) | exact .app (.next (.next (.next .here))) | exact .app (.next (.next (.next (.next .here)))) | exact .app (.next (.next (.next (.next (.next .here))))) | exact .app (.next (.next (.next (.next (.next (.next .here)))))) | exact .app (.next (.next (.next (.next (.next (.next (.next .here))))))) | exact .app .in1 | exact .app .in2 | exact .app (.next .in1) | exact .next (.app .in1) | exact .next (.next (.app .in1)) | exact .next (.app .here) | exact .next (.next (.app .here)) | exact .next (.next (.next (.app .here))) | exact .next (.next (.next (.next (.app .here))))) rfl trivial rfl rfl Tryz.underlying3 rfl rfl (by rfl) ?_
    refine G.bin rfl trivial rfl rfl rfl rfl rfl ?_
    first | refine G.nilCheckP rfl trivial rfl rfl rfl ?_ | refine G.nilCheckF rfl trivial rfl rfl rfl ?_
    refine G.fieldAddr rfl trivial rfl rfl Tryz.underlying116 rfl I3 rfl rfl ?_
    refine G.store (v := .int _ _) (by first | exact .here | exact .next .here | exact .next (.next .here) | exact .next (.next (.next .here)) | exact .next (.next (.next (.next .here))) | exact .next (.next (.next (.next (.next .here)))) | exact .next (.next (.next (.next (.next (.next .here))))) | exact .next (.next (.next (.next (.next (.next (.next .here)))))) | exact .in1 | exact .next .in1 | exact .next (.next .in1) | exact .next (.next (.next .in1)) | exact .next (.next (.next (.next .in1))) | exact .in2 | exact .next .in2 | exact .next (.next .in2) | exact .next (.next (.next .in2)) | exact .next (.next (.next (.next .in2))) | exact .app .here | exact .app (.next .here) | exact .app (.next (.next .here)) | exact .app (.next (.next (.next .here))) | exact .app (.next (.next (.next (.next .here)))) | exact .app (.next (.next (.next (.next (.next .here))))) | exact .app (.next (.next (.next (.next (.next (.next .here)))))) | exact .app (.next (.next (.next (.next (.next (.next (.next .here))))))) | exact .app .in1 | exact .app .in2 | exact .app (.next .in1) | exact .next (.app .in1) | exact .next (.next (.app .in1)) | exact .next (.app .here) | exact .next (.next (.app .here)) | exact .next (.next (.next (.app .here))) | exact .next (.next (.next (.next (.app .here))))) rfl trivial rfl I3 rfl rfl rfl (by first | decide | (simp; done) | (simp; omega)) _ (by first | (simp only [List.set_cons_succ, List.set_cons_zero]; done) | (simp only [List.set_cons_succ, List.set_cons_zero]; exact rfl) | exact rfl) ?_
    refine G.nil ?_
    -- end c0T
    exact ⟨rfl, _, Res.of (rs := []) rfl rfl, by subst_vars; rfl, rfl⟩
  · intro hc0
    refine C.skip ?_
    refine C.region ?_
    refine G.moveP rfl trivial rfl rfl rfl ?_
    first | refine G.nilCheckP rfl trivial rfl rfl rfl ?_ | refine G.nilCheckF rfl trivial rfl rfl rfl ?_
    refine G.fieldAddr rfl trivial rfl rfl Tryz.underlying116 rfl I3 rfl rfl ?_
    refine G.loadAt (by first | exact .here | exact .next .here | exact .next (.next .here) | exact .next (.next (.next .here)) | exact .next (.next (.next (.next .here))) | exact .next (.next (.next (.next (.next .here)))) | exact .next (.next (.next (.next (.next (.next .here))))) | exact .next (.next (.next (.next (.next (.next (.next .here)))))) | exact .in1 | exact .next .in1 | exact .next (.next .in1) | exact .next (.next (.next .in1)) | exact .next (.next (.next (.next .in1))) | exact .in2 | exact .next .in2 | exact .next (.next .in2) | exact .next (.next (.next .in2)) | exact .next (.next (.next (.next .in2))) | exact .app .here | exact .app (.next .here) | exact .app (.next (.next .here)) | exact .app (.next (.next (.next .here))) | exact .app (.next (.next (.next (.next .here)))) | exact .app (.next (.next (.next (.next (.next .here))))) | exact .app (.next (.next (.next (.next (.next (.next .here)))))) | exact .app (.next (.next (.next (.next (.next (.next (.next .here))))))) | exact .app .in1 | exact .app .in2 | exact .app (.next .in1) | exact .next (.app .in1) | exact .next (.next (.app .in1)) | exact .next (.app .here) | exact .next (.next (.app .here)) | exact .next (.next (.next (.app .here))) | exact .next (.next (.next (.next (.app .here))))) rfl trivial rfl rfl Tryz.underlying3 rfl rfl (by rfl) ?_
    refine G.bin rfl trivial rfl rfl rfl rfl rfl ?_
    first | refine G.nilCheckP rfl trivial rfl rfl rfl ?_ | refine G.nilCheckF rfl trivial rfl rfl rfl ?_
    refine G.fieldAddr rfl trivial rfl rfl Tryz.underlying116 rfl I3 rfl rfl ?_
    refine G.store (v := .int _ _) (by first | exact .here | exact .next .here | exact .next (.next .here) | exact .next (.next (.next .here)) | exact .next (.next (.next (.next .here))) | exact .next (.next (.next (.next (.next .here)))) | exact .next (.next (.next (.next (.next (.next .here))))) | exact .next (.next (.next (.next (.next (.next (.next .here)))))) | exact .in1 | exact .next .in1 | exact .next (.next .in1) | exact .next (.next (.next .in1)) | exact .next (.next (.next (.next .in1))) | exact .in2 | exact .next .in2 | exact .next (.next .in2) | exact .next (.next (.next .in2)) | exact .next (.next (.next (.next .in2))) | exact .app .here | exact .app (.next .here) | exact .app (.next (.next .here)) | exact .app (.next (.next (.next .here))) | exact .app (.next (.next (.next (.next .here)))) | exact .app (.next (.next (.next (.next (.next .here))))) | exact .app (.next (.next (.next (.next (.next (.next .here)))))) | exact .app (.next (.next (.next (.next (.next (.next (.next .here))))))) | exact .app .in1 | exact .app .in2 | exact .app (.next .in1) | exact .next (.app .in1) | exact .next (.next (.app .in1)) | exact .next (.app .here) | exact .next (.next (.app .here)) | exact .next (.next (.next (.app .here))) | exact .next (.next (.next (.next (.app .here))))) rfl trivial rfl I3 rfl rfl rfl (by first | decide | (simp; done) | (simp; omega)) _ (by first | (simp only [List.set_cons_succ, List.set_cons_zero]; done) | (simp only [List.set_cons_succ, List.set_cons_zero]; exact rfl) | exact rfl) ?_
    refine G.nil ?_
    -- end c0F
    exact ⟨rfl, _, Res.of (rs := []) rfl rfl, by subst_vars; rfl, rfl⟩
theorem atE_in {d : Dv} {i : Nat} (h : i < d.l.length) : atE d (i : Int) = 0 := by unfold atE; rw [if_pos (by omega)]
theorem read_ok (hd : d.ok) (i : Nat) (hi : i < d.l.length) : FnS Tryz.prog W0 209 #[ptr bd, .int .i64 (i : Int)] (S ++ (devSeg kd kl bd bl d :: L0))
    (fun e L' => ∃ v seg, OwnS v 64 (bytesV d.l[i].now) 5 1 seg ∧ L' = seg :: (S ++ (devSeg kd kl bd bl d :: L0)) ∧ e = .returned (.tuple #[v, .int .i64 0])) := by
  have hs := hd.1 _ (List.getElem_mem hi)
  have hlen := hd.2.1
  refine FnS.of (args := [ptr bd, .int .i64 (i : Int)]) Tryz.func209 rfl rfl ?_
  refine C.seq ?_
  refine C.region ?_
  refine G.assignS rfl trivial rfl rfl rfl ?_
  refine G.assignI rfl trivial rfl rfl rfl ?_
  refine G.nil ?_
  refine C.seq ?_
  refine C.seq ?_
  refine C.region ?_
  refine G.moveP rfl trivial rfl rfl rfl ?_
  refine G.moveI rfl trivial rfl rfl rfl ?_
  refine G.call E294 rfl rfl trivial rfl rfl (at_spec W0 S L0 kd kl bd bl d i) rfl ?_
  rintro e L2 ⟨rfl, rfl⟩
  rw [atE_in hi]
  refine G.assignI rfl trivial rfl rfl rfl ?_
  refine G.nil ?_
  refine C.seq ?_
  refine C.region ?_
  refine G.moveI rfl trivial rfl rfl rfl ?_
  refine G.bin rfl trivial rfl rfl rfl rfl rfl ?_
  refine G.nil ?_
  refine C.no rfl (by simp) ?_
  refine C.skip ?_
  refine C.seq ?_
  refine C.region ?_
  refine G.moveP rfl trivial rfl rfl rfl ?_
  first | refine G.nilCheckP rfl trivial rfl rfl rfl ?_ | refine G.nilCheckF rfl trivial rfl rfl rfl ?_
  refine G.fieldAddr rfl trivial rfl rfl Tryz.underlying116 rfl I114 rfl rfl ?_
  refine G.loadAt (by first | exact .here | exact .next .here | exact .next (.next .here) | exact .next (.next (.next .here)) | exact .next (.next (.next (.next .here))) | exact .next (.next (.next (.next (.next .here)))) | exact .next (.next (.next (.next (.next (.next .here))))) | exact .next (.next (.next (.next (.next (.next (.next .here)))))) | exact .in1 | exact .next .in1 | exact .next (.next .in1) | exact .next (.next (.next .in1)) | exact .next (.next (.next (.next .in1))) | exact .in2 | exact .next .in2 | exact .next (.next .in2) | exact .next (.next (.next .in2)) | exact .next (.next (.next (.next .in2))) | exact .app .here | exact .app (.next .here) | exact .app (.next (.next .here)) | exact .app (.next (.next (.next .here))) | exact .app (.next (.next (.next (.next .here)))) | exact .app (.next (.next (.next (.next (.next .here))))) | exact .app (.next (.next (.next (.next (.next (.next .here)))))) | exact .app (.next (.next (.next (.next (.next (.next (.next .here))))))) | exact .app .in1 | exact .app .in2 | exact .app (.next .in1) | exact .next (.app .in1) | exact .next (.next (.app .in1)) | exact .next (.app .here) | exact .next (.next (.app .here)) | exact .next (.next (.next (.app .here))) | exact .next (.next (.next (.next (.app .here))))) rfl trivial rfl rfl Tryz.underlying114 rfl rfl (by rfl) ?_
  refine G.moveI rfl trivial rfl rfl rfl ?_
  refine G.indexAddr rfl trivial rfl rfl Tryz.underlying114 I119 rfl rfl (by omega) ?_
  refine G.fieldAddr rfl trivial rfl rfl Tryz.underlying119 rfl I117 rfl rfl ?_
  refine G.sliceArr rfl trivial rfl rfl Tryz.underlying117 I5 rfl trivial ?_
  refine G.fix (d := 20) (v := .slice (some ⟨bl, 129 * i, none⟩) 64 64) (by show Value.slice (some ⟨bl, 0 + (i : Int).toNat * 129 + 0, none⟩) 64 64 = _; rw [show 0 + (i : Int).toNat * 129 + 0 = 129 * i by omega]) ?_
  refine G.call E124 rfl rfl trivial rfl rfl (clone_spec W0 _ ⟨bl, 129 * i, none⟩ 64 64 d.l[i].now hs.1.symm (by rw [hs.1]; decide) (Rd.row (.app .in1) (fun j hj => now_at hd.1 hi (by simpa [hs.1] using hj)))) rfl ?_
  rintro e L2 ⟨v, seg, hv, rfl, rfl⟩
  obtain ⟨a21, c21, rfl, hr21⟩ := hv.form
  refine G.assignS rfl trivial rfl rfl rfl ?_
  refine G.assignI rfl trivial rfl rfl rfl ?_
  refine G.nil ?_
  refine C.ret ?_
  -- end 
  exact ⟨rfl, _, Res.of (rs := [.tmp 4, .tmp 5]) rfl rfl, .slice a21 64 c21, seg, hv, rfl, rfl⟩
end dev
end Go.Proofs.YtokggoikffcijaaGreatDoor
