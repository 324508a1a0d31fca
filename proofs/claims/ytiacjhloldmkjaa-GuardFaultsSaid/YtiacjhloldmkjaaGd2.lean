/-
  The laws of guard, walked: each comes to true.
-/
import Derived.Test.YtiacjhloldmkjaaGd1
namespace Go.Proofs.Ytiacjhloldmkjaa
open Go Go.SL Go.RowKit

theorem begun1_spec (W0 : World) (L : List Seg) : FnS Try.prog W0 27 #[] L (fun e L' => L' = L ∧ e = .panicked (fault 4)) := by
  refine FnS.of (args := []) Try.func27 rfl rfl ?_
  refine C.region ?_
  refine G.call E13 rfl rfl trivial rfl rfl (break_spec W0 _ 4) rfl ?_
  rintro e L2 ⟨rfl, rfl⟩
  exact ⟨rfl, rfl, rfl⟩
theorem begun2_spec (W0 : World) (L : List Seg) : FnS Try.prog W0 28 #[] L (fun e L' => L' = L ∧ e = .returned (.tuple #[])) := by
  refine FnS.of (args := []) Try.func28 rfl rfl ?_
  refine C.skip ?_
  -- end 
  exact ⟨rfl, _, Res.of (rs := []) rfl rfl, rfl, rfl⟩
theorem begun3_spec (W0 : World) (L : List Seg) : FnS Try.prog W0 29 #[] L (fun e L' => L' = L ∧ e = .returned (.tuple #[])) := by
  refine FnS.of (args := []) Try.func29 rfl rfl ?_
  refine C.region ?_
  refine G.call E12 rfl rfl trivial rfl rfl (check_spec W0 _ 4) rfl ?_
  rintro e L2 ⟨rfl, rfl⟩
  refine G.nil ?_
  -- end 
  exact ⟨rfl, _, Res.of (rs := []) rfl rfl, rfl, rfl⟩
theorem begun_spec (W0 : World) (L : List Seg) : FnS Try.prog W0 10 #[] L (fun e L' => L' = L ∧ e = .returned (.bool true)) := by
  refine FnS.of (args := []) Try.func10 rfl rfl ?_
  refine C.seq ?_
  refine C.region ?_
  refine G.assignB rfl trivial rfl rfl rfl ?_
  refine G.nil ?_
  refine C.seq ?_
  refine C.region ?_
  refine G.call E18 rfl rfl trivial rfl rfl (try_fault W0 _ _ 27 [] [] [] 4 E27 rfl (fun _ => begun1_spec W0 _)) rfl ?_
  rintro e L2 ⟨rfl, rfl⟩
  refine G.bin rfl trivial rfl rfl rfl rfl rfl ?_
  refine G.moveB rfl trivial rfl rfl rfl ?_
  refine G.yes (t := 3) rfl rfl ?_
  refine G.call E18 rfl rfl ⟨_, rfl, rfl, rfl⟩ rfl rfl (try_ok W0 _ _ 28 [] [] [] _ E28 rfl (fun _ => begun2_spec W0 _)) rfl ?_
  rintro e L2 ⟨rfl, rfl⟩
  refine G.bin rfl ⟨_, rfl, rfl, rfl⟩ rfl rfl rfl rfl rfl ?_
  refine G.yes (t := 5) rfl rfl ?_
  first | refine G.pickT rfl trivial rfl rfl rfl rfl ?_ | refine G.pickF rfl trivial rfl rfl rfl rfl ?_
  refine G.moveB rfl trivial rfl rfl rfl ?_
  refine G.call E18 rfl rfl ⟨_, rfl, rfl, rfl⟩ rfl rfl (try_nil W0 _) rfl ?_
  rintro e L2 ⟨rfl, rfl⟩
  refine G.bin rfl ⟨_, rfl, rfl, rfl⟩ rfl rfl rfl rfl rfl ?_
  refine G.yes (t := 9) rfl rfl ?_
  first | refine G.pickT rfl trivial rfl rfl rfl rfl ?_ | refine G.pickF rfl trivial rfl rfl rfl rfl ?_
  refine G.moveB rfl trivial rfl rfl rfl ?_
  refine G.call E18 rfl rfl ⟨_, rfl, rfl, rfl⟩ rfl rfl (try_ok W0 _ _ 29 [] [] [] _ E29 rfl (fun _ => begun3_spec W0 _)) rfl ?_
  rintro e L2 ⟨rfl, rfl⟩
  refine G.bin rfl ⟨_, rfl, rfl, rfl⟩ rfl rfl rfl rfl rfl ?_
  refine G.yes (t := 13) rfl rfl ?_
  first | refine G.pickT rfl trivial rfl rfl rfl rfl ?_ | refine G.pickF rfl trivial rfl rfl rfl rfl ?_
  refine G.assignB rfl trivial rfl rfl rfl ?_
  refine G.nil ?_
  refine C.ret ?_
  -- end 
  exact ⟨rfl, _, Res.of (rs := [.tmp 0]) rfl rfl, rfl, rfl⟩

/-! ### Another panic goes on -/
def and1 (z : Int) : Int := IntKind.i64.wrap (BitVec.ofInt IntKind.i64.bits z &&& BitVec.ofInt IntKind.i64.bits 1).toNat
def otT (z : Int) : TypeId := if and1 z = 0 then 9 else 3
def otV (s : ByteArray) (n z : Int) : Value := if and1 z = 0 then .string s else .int .i64 n
theorem others1_spec (W0 : World) (s : ByteArray) (n z : Int) (b3 b4 b5 : Nat) (S L : List Seg) : FnS Try.prog W0 16 #[.pointer (some ⟨b5, 0, none⟩), .pointer (some ⟨b3, 0, none⟩), .pointer (some ⟨b4, 0, none⟩)] (S ++ ([(b5, .row [.int .i64 z] 3 1)] :: [(b4, .row [.int .i64 n] 3 1)] :: [(b3, .row [.string s] 9 1)] :: L))
    (fun e L' => L' = S ++ ([(b5, .row [.int .i64 z] 3 1)] :: [(b4, .row [.int .i64 n] 3 1)] :: [(b3, .row [.string s] 9 1)] :: L) ∧ e = .panicked [{ v := .iface (otT z) (otV s n z), recovered := false }]) := by
  refine FnS.of (args := [.pointer (some ⟨b5, 0, none⟩), .pointer (some ⟨b3, 0, none⟩), .pointer (some ⟨b4, 0, none⟩)]) Try.func16 rfl rfl ?_
  refine C.seq ?_
  refine C.seq ?_
  refine C.region ?_
  refine G.loadAt (by first | exact .here | exact .next .here | exact .next (.next .here) | exact .next (.next (.next .here)) | exact .next (.next (.next (.next .here))) | exact .next (.next (.next (.next (.next .here)))) | exact .next (.next (.next (.next (.next (.next .here))))) | exact .next (.next (.next (.next (.next (.next (.next .here)))))) | exact .in1 | exact .next .in1 | exact .next (.next .in1) | exact .next (.next (.next .in1)) | exact .next (.next (.next (.next .in1))) | exact .in2 | exact .next .in2 | exact .next (.next .in2) | exact .next (.next (.next .in2)) | exact .next (.next (.next (.next .in2))) | exact .app .here | exact .app (.next .here) | exact .app (.next (.next .here)) | exact .app (.next (.next (.next .here))) | exact .next (.app .here) | exact .next (.next (.app .here)) | exact .next (.next (.next (.app .here))) | exact .next (.next (.next (.next (.app .here))))) rfl trivial rfl rfl Try.underlying3 rfl rfl (by rfl) ?_
  refine G.bin rfl trivial rfl rfl rfl rfl rfl ?_
  refine G.fix (d := 4) (v := .int .i64 (and1 z)) rfl ?_
  refine G.bin rfl trivial rfl rfl rfl rfl rfl ?_
  refine G.nil ?_
  refine C.cond _ rfl ?_ ?_
  · intro hc0
    refine C.region ?_
    refine G.loadAt (by first | exact .here | exact .next .here | exact .next (.next .here) | exact .next (.next (.next .here)) | exact .next (.next (.next (.next .here))) | exact .next (.next (.next (.next (.next .here)))) | exact .next (.next (.next (.next (.next (.next .here))))) | exact .next (.next (.next (.next (.next (.next (.next .here)))))) | exact .in1 | exact .next .in1 | exact .next (.next .in1) | exact .next (.next (.next .in1)) | exact .next (.next (.next (.next .in1))) | exact .in2 | exact .next .in2 | exact .next (.next .in2) | exact .next (.next (.next .in2)) | exact .next (.next (.next (.next .in2))) | exact .app .here | exact .app (.next .here) | exact .app (.next (.next .here)) | exact .app (.next (.next (.next .here))) | exact .next (.app .here) | exact .next (.next (.app .here)) | exact .next (.next (.next (.app .here))) | exact .next (.next (.next (.next (.app .here))))) rfl trivial rfl rfl Try.underlying9 rfl rfl (by rfl) ?_
    refine G.makeInterface rfl trivial rfl rfl Try.underlying9 rfl ?_
    refine G.panic rfl trivial rfl ?_
    exact ⟨rfl, rfl, by simp only [otT, otV, hc0, if_true]; rfl⟩
  · intro hc0
    refine C.skip ?_
    refine C.region ?_
    refine G.loadAt (by first | exact .here | exact .next .here | exact .next (.next .here) | exact .next (.next (.next .here)) | exact .next (.next (.next (.next .here))) | exact .next (.next (.next (.next (.next .here)))) | exact .next (.next (.next (.next (.next (.next .here))))) | exact .next (.next (.next (.next (.next (.next (.next .here)))))) | exact .in1 | exact .next .in1 | exact .next (.next .in1) | exact .next (.next (.next .in1)) | exact .next (.next (.next (.next .in1))) | exact .in2 | exact .next .in2 | exact .next (.next .in2) | exact .next (.next (.next .in2)) | exact .next (.next (.next (.next .in2))) | exact .app .here | exact .app (.next .here) | exact .app (.next (.next .here)) | exact .app (.next (.next (.next .here))) | exact .next (.app .here) | exact .next (.next (.app .here)) | exact .next (.next (.next (.app .here))) | exact .next (.next (.next (.next (.app .here))))) rfl trivial rfl rfl Try.underlying3 rfl rfl (by rfl) ?_
    refine G.makeInterface rfl trivial rfl rfl Try.underlying3 rfl ?_
    refine G.panic rfl trivial rfl ?_
    exact ⟨rfl, rfl, by simp only [otT, otV, hc0, if_false]; rfl⟩
theorem others_walk (W0 : World) (s0 : ByteArray) (n z : Int) :
    FnS Try.prog W0 4 #[.string s0, .int .i64 n, .int .i64 z] [] (fun e _ => e = .returned (.bool true)) := by
  have ht : otT z ≠ 36 := by unfold otT; split <;> decide
  refine FnS.of (args := [.string s0, .int .i64 n, .int .i64 z]) Try.func4 rfl rfl ?_
  refine C.seq ?_
  refine C.region ?_
  refine G.boxT rfl trivial rfl rfl rfl ?_
  intro b3
  refine G.boxI rfl trivial rfl rfl rfl ?_
  intro b4
  refine G.boxI rfl trivial rfl rfl rfl ?_
  intro b5
  refine G.assignB rfl trivial rfl rfl rfl ?_
  refine G.nil ?_
  refine C.seq ?_
  refine C.region ?_
  refine G.call E10 rfl rfl trivial rfl rfl (begun_spec W0 _) rfl ?_
  rintro e L2 ⟨rfl, rfl⟩
  refine G.assignB rfl trivial rfl rfl rfl ?_
  refine G.nil ?_
  refine C.seq ?_
  refine C.seq ?_
  refine C.region ?_
  refine G.moveB rfl trivial rfl rfl rfl ?_
  first | refine G.notD rfl trivial rfl rfl rfl ?_ | refine G.not rfl trivial rfl rfl rfl ?_
  refine G.nil ?_
  refine C.condF rfl ?_
  refine C.skip ?_
  refine C.seq ?_
  refine C.seq ?_
  refine C.region ?_
  refine G.loadAt (by first | exact .here | exact .next .here | exact .next (.next .here) | exact .next (.next (.next .here)) | exact .next (.next (.next (.next .here))) | exact .next (.next (.next (.next (.next .here)))) | exact .next (.next (.next (.next (.next (.next .here))))) | exact .next (.next (.next (.next (.next (.next (.next .here)))))) | exact .in1 | exact .next .in1 | exact .next (.next .in1) | exact .next (.next (.next .in1)) | exact .next (.next (.next (.next .in1))) | exact .in2 | exact .next .in2 | exact .next (.next .in2) | exact .next (.next (.next .in2)) | exact .next (.next (.next (.next .in2))) | exact .app .here | exact .app (.next .here) | exact .app (.next (.next .here)) | exact .app (.next (.next (.next .here))) | exact .next (.app .here) | exact .next (.next (.app .here)) | exact .next (.next (.next (.app .here))) | exact .next (.next (.next (.next (.app .here))))) rfl trivial rfl rfl Try.underlying9 rfl rfl (by rfl) ?_
  refine G.lenStr rfl trivial rfl rfl Try.underlying9 rfl ?_
  refine G.bin rfl trivial rfl rfl rfl rfl rfl ?_
  refine G.nil ?_
  refine C.cond _ rfl ?_ ?_
  · intro hc1
    refine C.region ?_
    refine G.loadAt (by first | exact .here | exact .next .here | exact .next (.next .here) | exact .next (.next (.next .here)) | exact .next (.next (.next (.next .here))) | exact .next (.next (.next (.next (.next .here)))) | exact .next (.next (.next (.next (.next (.next .here))))) | exact .next (.next (.next (.next (.next (.next (.next .here)))))) | exact .in1 | exact .next .in1 | exact .next (.next .in1) | exact .next (.next (.next .in1)) | exact .next (.next (.next (.next .in1))) | exact .in2 | exact .next .in2 | exact .next (.next .in2) | exact .next (.next (.next .in2)) | exact .next (.next (.next (.next .in2))) | exact .app .here | exact .app (.next .here) | exact .app (.next (.next .here)) | exact .app (.next (.next (.next .here))) | exact .next (.app .here) | exact .next (.next (.app .here)) | exact .next (.next (.next (.app .here))) | exact .next (.next (.next (.next (.app .here))))) rfl trivial rfl rfl Try.underlying9 rfl rfl (by rfl) ?_
    refine G.sliceStrH rfl trivial rfl rfl Try.underlying9 rfl rfl (by omega) ?_
    generalize s0.extract 0 (Int.toNat 50) = s
    refine G.store (v := .string _) (by first | exact .here | exact .next .here | exact .next (.next .here) | exact .next (.next (.next .here)) | exact .next (.next (.next (.next .here))) | exact .next (.next (.next (.next (.next .here)))) | exact .next (.next (.next (.next (.next (.next .here))))) | exact .next (.next (.next (.next (.next (.next (.next .here)))))) | exact .in1 | exact .next .in1 | exact .next (.next .in1) | exact .next (.next (.next .in1)) | exact .next (.next (.next (.next .in1))) | exact .in2 | exact .next .in2 | exact .next (.next .in2) | exact .next (.next (.next .in2)) | exact .next (.next (.next (.next .in2))) | exact .app .here | exact .app (.next .here) | exact .app (.next (.next .here)) | exact .app (.next (.next (.next .here))) | exact .next (.app .here) | exact .next (.next (.app .here)) | exact .next (.next (.next (.app .here))) | exact .next (.next (.next (.next (.app .here))))) rfl trivial rfl I9 rfl rfl rfl (by first | decide | (simp; done) | (simp; omega)) _ (by first | (simp only [List.set_cons_succ, List.set_cons_zero]; done) | (simp only [List.set_cons_succ, List.set_cons_zero]; exact rfl) | exact rfl) ?_
    refine G.nil ?_
    refine C.seq ?_
    refine C.region ?_
    refine G.makeFuncL (l2 := [.pointer (some ⟨b5, 0, none⟩), .pointer (some ⟨b3, 0, none⟩), .pointer (some ⟨b4, 0, none⟩)]) rfl trivial rfl rfl rfl rfl ?_
    refine G.call E14 rfl rfl trivial rfl rfl (tries_other W0 _ _ 16 [] [.pointer (some ⟨b5, 0, none⟩), .pointer (some ⟨b3, 0, none⟩), .pointer (some ⟨b4, 0, none⟩)] _ (otT z) (otV s n z) ht E16 rfl (fun S => others1_spec W0 s n z b3 b4 b5 S [])) rfl ?_
    rintro e L2 ⟨rfl, rfl⟩
    refine G.moveU rfl trivial rfl rfl rfl ?_
    refine G.extractL rfl trivial rfl rfl rfl rfl ?_
    refine G.extractL rfl trivial rfl rfl rfl rfl ?_
    refine G.extractL rfl trivial rfl rfl rfl rfl ?_
    refine G.assignI rfl trivial rfl rfl rfl ?_
    first | refine G.assignW rfl trivial rfl rfl rfl ?_ | refine G.assign .nilIface rfl trivial rfl rfl rfl ?_
    refine G.assignB rfl trivial rfl rfl rfl ?_
    refine G.nil ?_
    refine C.seq ?_
    refine C.seq ?_
    refine C.region ?_
    refine G.moveB rfl trivial rfl rfl rfl ?_
    refine G.nil ?_
    refine C.condF rfl ?_
    refine C.skip ?_
    refine C.seq ?_
    refine C.seq ?_
    refine C.region ?_
    refine G.loadAt (by first | exact .here | exact .next .here | exact .next (.next .here) | exact .next (.next (.next .here)) | exact .next (.next (.next (.next .here))) | exact .next (.next (.next (.next (.next .here)))) | exact .next (.next (.next (.next (.next (.next .here))))) | exact .next (.next (.next (.next (.next (.next (.next .here)))))) | exact .in1 | exact .next .in1 | exact .next (.next .in1) | exact .next (.next (.next .in1)) | exact .next (.next (.next (.next .in1))) | exact .in2 | exact .next .in2 | exact .next (.next .in2) | exact .next (.next (.next .in2)) | exact .next (.next (.next (.next .in2))) | exact .app .here | exact .app (.next .here) | exact .app (.next (.next .here)) | exact .app (.next (.next (.next .here))) | exact .next (.app .here) | exact .next (.next (.app .here)) | exact .next (.next (.next (.app .here))) | exact .next (.next (.next (.next (.app .here))))) rfl trivial rfl rfl Try.underlying3 rfl rfl (by rfl) ?_
    refine G.bin rfl trivial rfl rfl rfl rfl rfl ?_
    refine G.fix (d := 31) (v := .int .i64 (and1 z)) rfl ?_
    refine G.bin rfl trivial rfl rfl rfl rfl rfl ?_
    refine G.nil ?_
    refine C.cond _ rfl ?_ ?_
    · intro hc3
      rw [show otT z = 9 by simp [otT, hc3], show otV s n z = .string s by simp [otV, hc3]]
      refine C.seq ?_
      refine C.region ?_
      first | refine G.moveW rfl trivial rfl rfl rfl ?_ | refine G.move .nilIface rfl trivial rfl rfl rfl ?_
      first | refine G.isType rfl trivial rfl rfl Try.underlying9 rfl rfl ?_ | refine G.notType rfl trivial rfl rfl Try.underlying9 rfl I9 rfl (by decide) ?_ | refine G.noType rfl trivial rfl rfl Try.underlying9 rfl I9 rfl ?_
      refine G.moveU rfl trivial rfl rfl rfl ?_
      refine G.extractL rfl trivial rfl rfl rfl rfl ?_
      refine G.extractL rfl trivial rfl rfl rfl rfl ?_
      refine G.assignT rfl trivial rfl rfl rfl ?_
      refine G.assignB rfl trivial rfl rfl rfl ?_
      refine G.nil ?_
      refine C.seq ?_
      refine C.region ?_
      refine G.moveB rfl trivial rfl rfl rfl ?_
      refine G.moveB rfl trivial rfl rfl rfl ?_
      refine G.moveT rfl ⟨_, rfl, rfl, rfl⟩ rfl rfl rfl ?_
      refine G.loadAt (by first | exact .here | exact .next .here | exact .next (.next .here) | exact .next (.next (.next .here)) | exact .next (.next (.next (.next .here))) | exact .next (.next (.next (.next (.next .here)))) | exact .next (.next (.next (.next (.next (.next .here))))) | exact .next (.next (.next (.next (.next (.next (.next .here)))))) | exact .in1 | exact .next .in1 | exact .next (.next .in1) | exact .next (.next (.next .in1)) | exact .next (.next (.next (.next .in1))) | exact .in2 | exact .next .in2 | exact .next (.next .in2) | exact .next (.next (.next .in2)) | exact .next (.next (.next (.next .in2))) | exact .app .here | exact .app (.next .here) | exact .app (.next (.next .here)) | exact .app (.next (.next (.next .here))) | exact .next (.app .here) | exact .next (.next (.app .here)) | exact .next (.next (.next (.app .here))) | exact .next (.next (.next (.next (.app .here))))) rfl ⟨_, rfl, rfl, rfl⟩ rfl rfl Try.underlying9 rfl rfl (by rfl) ?_
      refine G.strEq rfl ⟨_, rfl, rfl, rfl⟩ rfl rfl  rfl rfl ?_
      refine G.yes (t := 42) rfl rfl ?_
      first | refine G.pickT rfl trivial rfl rfl rfl rfl ?_ | refine G.pickF rfl trivial rfl rfl rfl rfl ?_
      refine G.assignB rfl trivial rfl rfl rfl ?_
      refine G.nil ?_
      refine C.ret ?_
      -- end c1Tc3T
      exact ⟨rfl, _, Res.of (rs := [.tmp 6]) rfl rfl, rfl⟩
    · intro hc3
      rw [show otT z = 3 by simp [otT, hc3], show otV s n z = .int .i64 n by simp [otV, hc3]]
      refine C.skip ?_
      refine C.seq ?_
      refine C.region ?_
      first | refine G.moveW rfl trivial rfl rfl rfl ?_ | refine G.move .nilIface rfl trivial rfl rfl rfl ?_
      first | refine G.isType rfl trivial rfl rfl Try.underlying3 rfl rfl ?_ | refine G.notType rfl trivial rfl rfl Try.underlying3 rfl I3 rfl (by decide) ?_ | refine G.noType rfl trivial rfl rfl Try.underlying3 rfl I3 rfl ?_
      refine G.moveU rfl trivial rfl rfl rfl ?_
      refine G.extractL rfl trivial rfl rfl rfl rfl ?_
      refine G.extractL rfl trivial rfl rfl rfl rfl ?_
      refine G.assignI rfl trivial rfl rfl rfl ?_
      refine G.assignB rfl trivial rfl rfl rfl ?_
      refine G.nil ?_
      refine C.seq ?_
      refine C.region ?_
      refine G.moveB rfl trivial rfl rfl rfl ?_
      refine G.moveB rfl trivial rfl rfl rfl ?_
      refine G.moveI rfl ⟨_, rfl, rfl, rfl⟩ rfl rfl rfl ?_
      refine G.loadAt (by first | exact .here | exact .next .here | exact .next (.next .here) | exact .next (.next (.next .here)) | exact .next (.next (.next (.next .here))) | exact .next (.next (.next (.next (.next .here)))) | exact .next (.next (.next (.next (.next (.next .here))))) | exact .next (.next (.next (.next (.next (.next (.next .here)))))) | exact .in1 | exact .next .in1 | exact .next (.next .in1) | exact .next (.next (.next .in1)) | exact .next (.next (.next (.next .in1))) | exact .in2 | exact .next .in2 | exact .next (.next .in2) | exact .next (.next (.next .in2)) | exact .next (.next (.next (.next .in2))) | exact .app .here | exact .app (.next .here) | exact .app (.next (.next .here)) | exact .app (.next (.next (.next .here))) | exact .next (.app .here) | exact .next (.next (.app .here)) | exact .next (.next (.next (.app .here))) | exact .next (.next (.next (.next (.app .here))))) rfl ⟨_, rfl, rfl, rfl⟩ rfl rfl Try.underlying3 rfl rfl (by rfl) ?_
      refine G.bin rfl ⟨_, rfl, rfl, rfl⟩ rfl rfl rfl rfl rfl ?_
      refine G.yes (t := 53) rfl rfl ?_
      first | refine G.pickT rfl trivial rfl rfl rfl rfl ?_ | refine G.pickF rfl trivial rfl rfl rfl rfl ?_
      refine G.assignB rfl trivial rfl rfl rfl ?_
      refine G.nil ?_
      refine C.ret ?_
      -- end c1Tc3F
      exact ⟨rfl, _, Res.of (rs := [.tmp 6]) rfl rfl, rfl⟩
  · intro hc1
    obtain ⟨s, rfl⟩ : ∃ s, s = s0 := ⟨_, rfl⟩
    refine C.skip ?_
    refine C.seq ?_
    refine C.region ?_
    refine G.makeFuncL (l2 := [.pointer (some ⟨b5, 0, none⟩), .pointer (some ⟨b3, 0, none⟩), .pointer (some ⟨b4, 0, none⟩)]) rfl trivial rfl rfl rfl rfl ?_
    refine G.call E14 rfl rfl trivial rfl rfl (tries_other W0 _ _ 16 [] [.pointer (some ⟨b5, 0, none⟩), .pointer (some ⟨b3, 0, none⟩), .pointer (some ⟨b4, 0, none⟩)] _ (otT z) (otV s n z) ht E16 rfl (fun S => others1_spec W0 s n z b3 b4 b5 S [])) rfl ?_
    rintro e L2 ⟨rfl, rfl⟩
    refine G.moveU rfl trivial rfl rfl rfl ?_
    refine G.extractL rfl trivial rfl rfl rfl rfl ?_
    refine G.extractL rfl trivial rfl rfl rfl rfl ?_
    refine G.extractL rfl trivial rfl rfl rfl rfl ?_
    refine G.assignI rfl trivial rfl rfl rfl ?_
    first | refine G.assignW rfl trivial rfl rfl rfl ?_ | refine G.assign .nilIface rfl trivial rfl rfl rfl ?_
    refine G.assignB rfl trivial rfl rfl rfl ?_
    refine G.nil ?_
    refine C.seq ?_
    refine C.seq ?_
    refine C.region ?_
    refine G.moveB rfl trivial rfl rfl rfl ?_
    refine G.nil ?_
    refine C.condF rfl ?_
    refine C.skip ?_
    refine C.seq ?_
    refine C.seq ?_
    refine C.region ?_
    refine G.loadAt (by first | exact .here | exact .next .here | exact .next (.next .here) | exact .next (.next (.next .here)) | exact .next (.next (.next (.next .here))) | exact .next (.next (.next (.next (.next .here)))) | exact .next (.next (.next (.next (.next (.next .here))))) | exact .next (.next (.next (.next (.next (.next (.next .here)))))) | exact .in1 | exact .next .in1 | exact .next (.next .in1) | exact .next (.next (.next .in1)) | exact .next (.next (.next (.next .in1))) | exact .in2 | exact .next .in2 | exact .next (.next .in2) | exact .next (.next (.next .in2)) | exact .next (.next (.next (.next .in2))) | exact .app .here | exact .app (.next .here) | exact .app (.next (.next .here)) | exact .app (.next (.next (.next .here))) | exact .next (.app .here) | exact .next (.next (.app .here)) | exact .next (.next (.next (.app .here))) | exact .next (.next (.next (.next (.app .here))))) rfl trivial rfl rfl Try.underlying3 rfl rfl (by rfl) ?_
    refine G.bin rfl trivial rfl rfl rfl rfl rfl ?_
    refine G.fix (d := 31) (v := .int .i64 (and1 z)) rfl ?_
    refine G.bin rfl trivial rfl rfl rfl rfl rfl ?_
    refine G.nil ?_
    refine C.cond _ rfl ?_ ?_
    · intro hc3
      rw [show otT z = 9 by simp [otT, hc3], show otV s n z = .string s by simp [otV, hc3]]
      refine C.seq ?_
      refine C.region ?_
      first | refine G.moveW rfl trivial rfl rfl rfl ?_ | refine G.move .nilIface rfl trivial rfl rfl rfl ?_
      first | refine G.isType rfl trivial rfl rfl Try.underlying9 rfl rfl ?_ | refine G.notType rfl trivial rfl rfl Try.underlying9 rfl I9 rfl (by decide) ?_ | refine G.noType rfl trivial rfl rfl Try.underlying9 rfl I9 rfl ?_
      refine G.moveU rfl trivial rfl rfl rfl ?_
      refine G.extractL rfl trivial rfl rfl rfl rfl ?_
      refine G.extractL rfl trivial rfl rfl rfl rfl ?_
      refine G.assignT rfl trivial rfl rfl rfl ?_
      refine G.assignB rfl trivial rfl rfl rfl ?_
      refine G.nil ?_
      refine C.seq ?_
      refine C.region ?_
      refine G.moveB rfl trivial rfl rfl rfl ?_
      refine G.moveB rfl trivial rfl rfl rfl ?_
      refine G.moveT rfl ⟨_, rfl, rfl, rfl⟩ rfl rfl rfl ?_
      refine G.loadAt (by first | exact .here | exact .next .here | exact .next (.next .here) | exact .next (.next (.next .here)) | exact .next (.next (.next (.next .here))) | exact .next (.next (.next (.next (.next .here)))) | exact .next (.next (.next (.next (.next (.next .here))))) | exact .next (.next (.next (.next (.next (.next (.next .here)))))) | exact .in1 | exact .next .in1 | exact .next (.next .in1) | exact .next (.next (.next .in1)) | exact .next (.next (.next (.next .in1))) | exact .in2 | exact .next .in2 | exact .next (.next .in2) | exact .next (.next (.next .in2)) | exact .next (.next (.next (.next .in2))) | exact .app .here | exact .app (.next .here) | exact .app (.next (.next .here)) | exact .app (.next (.next (.next .here))) | exact .next (.app .here) | exact .next (.next (.app .here)) | exact .next (.next (.next (.app .here))) | exact .next (.next (.next (.next (.app .here))))) rfl ⟨_, rfl, rfl, rfl⟩ rfl rfl Try.underlying9 rfl rfl (by rfl) ?_
      refine G.strEq rfl ⟨_, rfl, rfl, rfl⟩ rfl rfl  rfl rfl ?_
      refine G.yes (t := 42) rfl rfl ?_
      first | refine G.pickT rfl trivial rfl rfl rfl rfl ?_ | refine G.pickF rfl trivial rfl rfl rfl rfl ?_
      refine G.assignB rfl trivial rfl rfl rfl ?_
      refine G.nil ?_
      refine C.ret ?_
      -- end c1Fc3T
      exact ⟨rfl, _, Res.of (rs := [.tmp 6]) rfl rfl, rfl⟩
    · intro hc3
      rw [show otT z = 3 by simp [otT, hc3], show otV s n z = .int .i64 n by simp [otV, hc3]]
      refine C.skip ?_
      refine C.seq ?_
      refine C.region ?_
      first | refine G.moveW rfl trivial rfl rfl rfl ?_ | refine G.move .nilIface rfl trivial rfl rfl rfl ?_
      first | refine G.isType rfl trivial rfl rfl Try.underlying3 rfl rfl ?_ | refine G.notType rfl trivial rfl rfl Try.underlying3 rfl I3 rfl (by decide) ?_ | refine G.noType rfl trivial rfl rfl Try.underlying3 rfl I3 rfl ?_
      refine G.moveU rfl trivial rfl rfl rfl ?_
      refine G.extractL rfl trivial rfl rfl rfl rfl ?_
      refine G.extractL rfl trivial rfl rfl rfl rfl ?_
      refine G.assignI rfl trivial rfl rfl rfl ?_
      refine G.assignB rfl trivial rfl rfl rfl ?_
      refine G.nil ?_
      refine C.seq ?_
      refine C.region ?_
      refine G.moveB rfl trivial rfl rfl rfl ?_
      refine G.moveB rfl trivial rfl rfl rfl ?_
      refine G.moveI rfl ⟨_, rfl, rfl, rfl⟩ rfl rfl rfl ?_
      refine G.loadAt (by first | exact .here | exact .next .here | exact .next (.next .here) | exact .next (.next (.next .here)) | exact .next (.next (.next (.next .here))) | exact .next (.next (.next (.next (.next .here)))) | exact .next (.next (.next (.next (.next (.next .here))))) | exact .next (.next (.next (.next (.next (.next (.next .here)))))) | exact .in1 | exact .next .in1 | exact .next (.next .in1) | exact .next (.next (.next .in1)) | exact .next (.next (.next (.next .in1))) | exact .in2 | exact .next .in2 | exact .next (.next .in2) | exact .next (.next (.next .in2)) | exact .next (.next (.next (.next .in2))) | exact .app .here | exact .app (.next .here) | exact .app (.next (.next .here)) | exact .app (.next (.next (.next .here))) | exact .next (.app .here) | exact .next (.next (.app .here)) | exact .next (.next (.next (.app .here))) | exact .next (.next (.next (.next (.app .here))))) rfl ⟨_, rfl, rfl, rfl⟩ rfl rfl Try.underlying3 rfl rfl (by rfl) ?_
      refine G.bin rfl ⟨_, rfl, rfl, rfl⟩ rfl rfl rfl rfl rfl ?_
      refine G.yes (t := 53) rfl rfl ?_
      first | refine G.pickT rfl trivial rfl rfl rfl rfl ?_ | refine G.pickF rfl trivial rfl rfl rfl rfl ?_
      refine G.assignB rfl trivial rfl rfl rfl ?_
      refine G.nil ?_
      refine C.ret ?_
      -- end c1Fc3F
      exact ⟨rfl, _, Res.of (rs := [.tmp 6]) rfl rfl, rfl⟩
/-! ### A try within a try -/
theorem within11_spec (W0 : World) (L : List Seg) (a : Int) (b3 : Nat) {u : Nat → SObj → List Seg} (ha : At L b3 (.row [.int .i64 a] 3 1) u) : FnS Try.prog W0 19 #[.pointer (some ⟨b3, 0, none⟩)] L (fun e L' => L' = L ∧ e = .panicked (fault (brk a))) := by
  refine FnS.of (args := [.pointer (some ⟨b3, 0, none⟩)]) Try.func19 rfl rfl ?_
  refine C.region ?_
  refine G.loadAt ha rfl trivial rfl rfl Try.underlying3 rfl rfl rfl ?_
  refine G.call E13 rfl rfl trivial rfl rfl (break_spec W0 _ a) rfl ?_
  rintro e L2 ⟨rfl, rfl⟩
  exact ⟨rfl, rfl, rfl⟩
theorem within1_t (W0 : World) (S L : List Seg) (a b x : Int) (b3 b4 b5 b8 : Nat) :
    FnS Try.prog W0 17 #[.pointer (some ⟨b3, 0, none⟩), .pointer (some ⟨b8, 0, none⟩), .pointer (some ⟨b5, 0, none⟩), .pointer (some ⟨b4, 0, none⟩)]
      (S ++ ([(b8, .row [.int .i64 x] 23 1)] :: [(b5, .row [.bool true] 4 1)] :: [(b4, .row [.int .i64 b] 3 1)] :: [(b3, .row [.int .i64 a] 3 1)] :: L))
      (fun e L' => L' = S ++ ([(b8, .row [.int .i64 (brk a)] 23 1)] :: [(b5, .row [.bool true] 4 1)] :: [(b4, .row [.int .i64 b] 3 1)] :: [(b3, .row [.int .i64 a] 3 1)] :: L) ∧ e = .panicked (fault (brk b))) := by
  refine FnS.of (args := [.pointer (some ⟨b3, 0, none⟩), .pointer (some ⟨b8, 0, none⟩), .pointer (some ⟨b5, 0, none⟩), .pointer (some ⟨b4, 0, none⟩)]) Try.func17 rfl rfl ?_
  refine C.seq ?_
  refine C.region ?_
  refine G.makeFuncL (l2 := [.pointer (some ⟨b3, 0, none⟩)]) rfl trivial rfl rfl rfl rfl ?_
  refine G.call E18 rfl rfl trivial rfl rfl (try_fault W0 _ _ 19 [] [.pointer (some ⟨b3, 0, none⟩)] _ (brk a) E19 rfl (fun _ => within11_spec W0 _ a b3 (.next (.app (.next (.next (.next .here))))))) rfl ?_
  rintro e L2 ⟨rfl, rfl⟩
  refine G.store (v := .int _ _) (by first | exact .here | exact .next .here | exact .next (.next .here) | exact .next (.next (.next .here)) | exact .next (.next (.next (.next .here))) | exact .next (.next (.next (.next (.next .here)))) | exact .next (.next (.next (.next (.next (.next .here))))) | exact .next (.next (.next (.next (.next (.next (.next .here)))))) | exact .in1 | exact .next .in1 | exact .next (.next .in1) | exact .next (.next (.next .in1)) | exact .next (.next (.next (.next .in1))) | exact .in2 | exact .next .in2 | exact .next (.next .in2) | exact .next (.next (.next .in2)) | exact .next (.next (.next (.next .in2))) | exact .app .here | exact .app (.next .here) | exact .app (.next (.next .here)) | exact .app (.next (.next (.next .here))) | exact .next (.app .here) | exact .next (.next (.app .here)) | exact .next (.next (.next (.app .here))) | exact .next (.next (.next (.next (.app .here))))) rfl trivial rfl I23 rfl rfl rfl (by first | decide | (simp; done) | (simp; omega)) _ (by first | (simp only [List.set_cons_succ, List.set_cons_zero]; done) | (simp only [List.set_cons_succ, List.set_cons_zero]; exact rfl) | exact rfl) ?_
  refine G.nil ?_
  refine C.region ?_
  refine G.loadAt (by first | exact .here | exact .next .here | exact .next (.next .here) | exact .next (.next (.next .here)) | exact .next (.next (.next (.next .here))) | exact .next (.next (.next (.next (.next .here)))) | exact .next (.next (.next (.next (.next (.next .here))))) | exact .next (.next (.next (.next (.next (.next (.next .here)))))) | exact .in1 | exact .next .in1 | exact .next (.next .in1) | exact .next (.next (.next .in1)) | exact .next (.next (.next (.next .in1))) | exact .in2 | exact .next .in2 | exact .next (.next .in2) | exact .next (.next (.next .in2)) | exact .next (.next (.next (.next .in2))) | exact .app .here | exact .app (.next .here) | exact .app (.next (.next .here)) | exact .app (.next (.next (.next .here))) | exact .next (.app .here) | exact .next (.next (.app .here)) | exact .next (.next (.next (.app .here))) | exact .next (.next (.next (.next (.app .here))))) rfl trivial rfl rfl Try.underlying4 rfl rfl (by rfl) ?_
  first | refine G.notD rfl trivial rfl rfl rfl ?_ | refine G.not rfl trivial rfl rfl rfl ?_
  refine G.loadAt (by first | exact .here | exact .next .here | exact .next (.next .here) | exact .next (.next (.next .here)) | exact .next (.next (.next (.next .here))) | exact .next (.next (.next (.next (.next .here)))) | exact .next (.next (.next (.next (.next (.next .here))))) | exact .next (.next (.next (.next (.next (.next (.next .here)))))) | exact .in1 | exact .next .in1 | exact .next (.next .in1) | exact .next (.next (.next .in1)) | exact .next (.next (.next (.next .in1))) | exact .in2 | exact .next .in2 | exact .next (.next .in2) | exact .next (.next (.next .in2)) | exact .next (.next (.next (.next .in2))) | exact .app .here | exact .app (.next .here) | exact .app (.next (.next .here)) | exact .app (.next (.next (.next .here))) | exact .next (.app .here) | exact .next (.next (.app .here)) | exact .next (.next (.next (.app .here))) | exact .next (.next (.next (.next (.app .here))))) rfl trivial rfl rfl Try.underlying3 rfl rfl (by rfl) ?_
  refine G.call E12 rfl rfl trivial rfl rfl (check_breaks W0 _ b) rfl ?_
  rintro e L2 ⟨rfl, rfl⟩
  exact ⟨rfl, rfl, rfl⟩
theorem within1_f (W0 : World) (S L : List Seg) (a b x : Int) (b3 b4 b5 b8 : Nat) :
    FnS Try.prog W0 17 #[.pointer (some ⟨b3, 0, none⟩), .pointer (some ⟨b8, 0, none⟩), .pointer (some ⟨b5, 0, none⟩), .pointer (some ⟨b4, 0, none⟩)]
      (S ++ ([(b8, .row [.int .i64 x] 23 1)] :: [(b5, .row [.bool false] 4 1)] :: [(b4, .row [.int .i64 b] 3 1)] :: [(b3, .row [.int .i64 a] 3 1)] :: L))
      (fun e L' => L' = S ++ ([(b8, .row [.int .i64 (brk a)] 23 1)] :: [(b5, .row [.bool false] 4 1)] :: [(b4, .row [.int .i64 b] 3 1)] :: [(b3, .row [.int .i64 a] 3 1)] :: L) ∧ e = .returned (.tuple #[])) := by
  refine FnS.of (args := [.pointer (some ⟨b3, 0, none⟩), .pointer (some ⟨b8, 0, none⟩), .pointer (some ⟨b5, 0, none⟩), .pointer (some ⟨b4, 0, none⟩)]) Try.func17 rfl rfl ?_
  refine C.seq ?_
  refine C.region ?_
  refine G.makeFuncL (l2 := [.pointer (some ⟨b3, 0, none⟩)]) rfl trivial rfl rfl rfl rfl ?_
  refine G.call E18 rfl rfl trivial rfl rfl (try_fault W0 _ _ 19 [] [.pointer (some ⟨b3, 0, none⟩)] _ (brk a) E19 rfl (fun _ => within11_spec W0 _ a b3 (.next (.app (.next (.next (.next .here))))))) rfl ?_
  rintro e L2 ⟨rfl, rfl⟩
  refine G.store (v := .int _ _) (by first | exact .here | exact .next .here | exact .next (.next .here) | exact .next (.next (.next .here)) | exact .next (.next (.next (.next .here))) | exact .next (.next (.next (.next (.next .here)))) | exact .next (.next (.next (.next (.next (.next .here))))) | exact .next (.next (.next (.next (.next (.next (.next .here)))))) | exact .in1 | exact .next .in1 | exact .next (.next .in1) | exact .next (.next (.next .in1)) | exact .next (.next (.next (.next .in1))) | exact .in2 | exact .next .in2 | exact .next (.next .in2) | exact .next (.next (.next .in2)) | exact .next (.next (.next (.next .in2))) | exact .app .here | exact .app (.next .here) | exact .app (.next (.next .here)) | exact .app (.next (.next (.next .here))) | exact .next (.app .here) | exact .next (.next (.app .here)) | exact .next (.next (.next (.app .here))) | exact .next (.next (.next (.next (.app .here))))) rfl trivial rfl I23 rfl rfl rfl (by first | decide | (simp; done) | (simp; omega)) _ (by first | (simp only [List.set_cons_succ, List.set_cons_zero]; done) | (simp only [List.set_cons_succ, List.set_cons_zero]; exact rfl) | exact rfl) ?_
  refine G.nil ?_
  refine C.region ?_
  refine G.loadAt (by first | exact .here | exact .next .here | exact .next (.next .here) | exact .next (.next (.next .here)) | exact .next (.next (.next (.next .here))) | exact .next (.next (.next (.next (.next .here)))) | exact .next (.next (.next (.next (.next (.next .here))))) | exact .next (.next (.next (.next (.next (.next (.next .here)))))) | exact .in1 | exact .next .in1 | exact .next (.next .in1) | exact .next (.next (.next .in1)) | exact .next (.next (.next (.next .in1))) | exact .in2 | exact .next .in2 | exact .next (.next .in2) | exact .next (.next (.next .in2)) | exact .next (.next (.next (.next .in2))) | exact .app .here | exact .app (.next .here) | exact .app (.next (.next .here)) | exact .app (.next (.next (.next .here))) | exact .next (.app .here) | exact .next (.next (.app .here)) | exact .next (.next (.next (.app .here))) | exact .next (.next (.next (.next (.app .here))))) rfl trivial rfl rfl Try.underlying4 rfl rfl (by rfl) ?_
  first | refine G.notD rfl trivial rfl rfl rfl ?_ | refine G.not rfl trivial rfl rfl rfl ?_
  refine G.loadAt (by first | exact .here | exact .next .here | exact .next (.next .here) | exact .next (.next (.next .here)) | exact .next (.next (.next (.next .here))) | exact .next (.next (.next (.next (.next .here)))) | exact .next (.next (.next (.next (.next (.next .here))))) | exact .next (.next (.next (.next (.next (.next (.next .here)))))) | exact .in1 | exact .next .in1 | exact .next (.next .in1) | exact .next (.next (.next .in1)) | exact .next (.next (.next (.next .in1))) | exact .in2 | exact .next .in2 | exact .next (.next .in2) | exact .next (.next (.next .in2)) | exact .next (.next (.next (.next .in2))) | exact .app .here | exact .app (.next .here) | exact .app (.next (.next .here)) | exact .app (.next (.next (.next .here))) | exact .next (.app .here) | exact .next (.next (.app .here)) | exact .next (.next (.next (.app .here))) | exact .next (.next (.next (.next (.app .here))))) rfl trivial rfl rfl Try.underlying3 rfl rfl (by rfl) ?_
  refine G.call E12 rfl rfl trivial rfl rfl (check_spec W0 _ b) rfl ?_
  rintro e L2 ⟨rfl, rfl⟩
  refine G.nil ?_
  -- end 
  exact ⟨rfl, _, Res.of (rs := []) rfl rfl, rfl, rfl⟩
theorem within_walk_t (W0 : World) (a b : Int) :
    FnS Try.prog W0 5 #[.int .i64 a, .int .i64 b, .bool true] [] (fun e _ => e = .returned (.bool true)) := by
  refine FnS.of (args := [.int .i64 a, .int .i64 b, .bool true]) Try.func5 rfl rfl ?_
  refine C.seq ?_
  refine C.region ?_
  refine G.boxI rfl trivial rfl rfl rfl ?_
  intro b3
  refine G.boxI rfl trivial rfl rfl rfl ?_
  intro b4
  refine G.boxB rfl trivial rfl rfl rfl ?_
  intro b5
  refine G.assignB rfl trivial rfl rfl rfl ?_
  refine G.nil ?_
  refine C.seq ?_
  refine C.region ?_
  refine G.call E10 rfl rfl trivial rfl rfl (begun_spec W0 _) rfl ?_
  rintro e L2 ⟨rfl, rfl⟩
  refine G.assignB rfl trivial rfl rfl rfl ?_
  refine G.nil ?_
  refine C.seq ?_
  refine C.seq ?_
  refine C.region ?_
  refine G.moveB rfl trivial rfl rfl rfl ?_
  first | refine G.notD rfl trivial rfl rfl rfl ?_ | refine G.not rfl trivial rfl rfl rfl ?_
  refine G.nil ?_
  refine C.condF rfl ?_
  refine C.skip ?_
  refine C.seq ?_
  refine C.seq ?_
  refine C.region ?_
  refine G.loadAt (by first | exact .here | exact .next .here | exact .next (.next .here) | exact .next (.next (.next .here)) | exact .next (.next (.next (.next .here))) | exact .next (.next (.next (.next (.next .here)))) | exact .next (.next (.next (.next (.next (.next .here))))) | exact .next (.next (.next (.next (.next (.next (.next .here)))))) | exact .in1 | exact .next .in1 | exact .next (.next .in1) | exact .next (.next (.next .in1)) | exact .next (.next (.next (.next .in1))) | exact .in2 | exact .next .in2 | exact .next (.next .in2) | exact .next (.next (.next .in2)) | exact .next (.next (.next (.next .in2))) | exact .app .here | exact .app (.next .here) | exact .app (.next (.next .here)) | exact .app (.next (.next (.next .here))) | exact .next (.app .here) | exact .next (.next (.app .here)) | exact .next (.next (.next (.app .here))) | exact .next (.next (.next (.next (.app .here))))) rfl trivial rfl rfl Try.underlying3 rfl rfl (by rfl) ?_
  refine G.bin rfl trivial rfl rfl rfl rfl rfl ?_
  refine G.moveB rfl trivial rfl rfl rfl ?_
  refine G.fork (t := 18) _ rfl ?_ ?_
  · intro hg18
    refine G.skip rfl rfl rfl rfl rfl rfl ?_
    refine G.skip rfl rfl rfl rfl rfl rfl ?_
    first | refine G.pickT rfl trivial rfl rfl rfl rfl ?_ | refine G.pickF rfl trivial rfl rfl rfl rfl ?_
    refine G.moveB rfl trivial rfl rfl rfl ?_
    refine G.skip rfl rfl rfl rfl rfl rfl ?_
    refine G.skip rfl rfl rfl rfl rfl rfl ?_
    first | refine G.pickT rfl trivial rfl rfl rfl rfl ?_ | refine G.pickF rfl trivial rfl rfl rfl rfl ?_
    refine G.moveB rfl trivial rfl rfl rfl ?_
    refine G.skip rfl rfl rfl rfl rfl rfl ?_
    refine G.skip rfl rfl rfl rfl rfl rfl ?_
    first | refine G.pickT rfl trivial rfl rfl rfl rfl ?_ | refine G.pickF rfl trivial rfl rfl rfl rfl ?_
    refine G.nil ?_
    refine C.condT rfl ?_
    refine C.seq ?_
    refine C.region ?_
    refine G.assignB rfl trivial rfl rfl rfl ?_
    refine G.nil ?_
    refine C.ret ?_
    -- end g18T
    exact ⟨rfl, _, Res.of (rs := [.tmp 6]) rfl rfl, rfl⟩
  · intro hg18
    refine G.loadAt (by first | exact .here | exact .next .here | exact .next (.next .here) | exact .next (.next (.next .here)) | exact .next (.next (.next (.next .here))) | exact .next (.next (.next (.next (.next .here)))) | exact .next (.next (.next (.next (.next (.next .here))))) | exact .next (.next (.next (.next (.next (.next (.next .here)))))) | exact .in1 | exact .next .in1 | exact .next (.next .in1) | exact .next (.next (.next .in1)) | exact .next (.next (.next (.next .in1))) | exact .in2 | exact .next .in2 | exact .next (.next .in2) | exact .next (.next (.next .in2)) | exact .next (.next (.next (.next .in2))) | exact .app .here | exact .app (.next .here) | exact .app (.next (.next .here)) | exact .app (.next (.next (.next .here))) | exact .next (.app .here) | exact .next (.next (.app .here)) | exact .next (.next (.next (.app .here))) | exact .next (.next (.next (.next (.app .here))))) rfl ⟨_, rfl, rfl, rfl⟩ rfl rfl Try.underlying3 rfl rfl (by rfl) ?_
    refine G.bin rfl ⟨_, rfl, rfl, rfl⟩ rfl rfl rfl rfl rfl ?_
    first | refine G.pickT rfl trivial rfl rfl rfl rfl ?_ | refine G.pickF rfl trivial rfl rfl rfl rfl ?_
    refine G.moveB rfl trivial rfl rfl rfl ?_
    refine G.fork (t := 22) _ rfl ?_ ?_
    · intro hg22
      refine G.skip rfl rfl rfl rfl rfl rfl ?_
      refine G.skip rfl rfl rfl rfl rfl rfl ?_
      first | refine G.pickT rfl trivial rfl rfl rfl rfl ?_ | refine G.pickF rfl trivial rfl rfl rfl rfl ?_
      refine G.moveB rfl trivial rfl rfl rfl ?_
      refine G.skip rfl rfl rfl rfl rfl rfl ?_
      refine G.skip rfl rfl rfl rfl rfl rfl ?_
      first | refine G.pickT rfl trivial rfl rfl rfl rfl ?_ | refine G.pickF rfl trivial rfl rfl rfl rfl ?_
      refine G.nil ?_
      refine C.condT rfl ?_
      refine C.seq ?_
      refine C.region ?_
      refine G.assignB rfl trivial rfl rfl rfl ?_
      refine G.nil ?_
      refine C.ret ?_
      -- end g18Fg22T
      exact ⟨rfl, _, Res.of (rs := [.tmp 6]) rfl rfl, rfl⟩
    · intro hg22
      refine G.loadAt (by first | exact .here | exact .next .here | exact .next (.next .here) | exact .next (.next (.next .here)) | exact .next (.next (.next (.next .here))) | exact .next (.next (.next (.next (.next .here)))) | exact .next (.next (.next (.next (.next (.next .here))))) | exact .next (.next (.next (.next (.next (.next (.next .here)))))) | exact .in1 | exact .next .in1 | exact .next (.next .in1) | exact .next (.next (.next .in1)) | exact .next (.next (.next (.next .in1))) | exact .in2 | exact .next .in2 | exact .next (.next .in2) | exact .next (.next (.next .in2)) | exact .next (.next (.next (.next .in2))) | exact .app .here | exact .app (.next .here) | exact .app (.next (.next .here)) | exact .app (.next (.next (.next .here))) | exact .next (.app .here) | exact .next (.next (.app .here)) | exact .next (.next (.next (.app .here))) | exact .next (.next (.next (.next (.app .here))))) rfl ⟨_, rfl, rfl, rfl⟩ rfl rfl Try.underlying3 rfl rfl (by rfl) ?_
      refine G.bin rfl ⟨_, rfl, rfl, rfl⟩ rfl rfl rfl rfl rfl ?_
      first | refine G.pickT rfl trivial rfl rfl rfl rfl ?_ | refine G.pickF rfl trivial rfl rfl rfl rfl ?_
      refine G.moveB rfl trivial rfl rfl rfl ?_
      refine G.fork (t := 26) _ rfl ?_ ?_
      · intro hg26
        refine G.skip rfl rfl rfl rfl rfl rfl ?_
        refine G.skip rfl rfl rfl rfl rfl rfl ?_
        first | refine G.pickT rfl trivial rfl rfl rfl rfl ?_ | refine G.pickF rfl trivial rfl rfl rfl rfl ?_
        refine G.nil ?_
        refine C.condT rfl ?_
        refine C.seq ?_
        refine C.region ?_
        refine G.assignB rfl trivial rfl rfl rfl ?_
        refine G.nil ?_
        refine C.ret ?_
        -- end g18Fg22Fg26T
        exact ⟨rfl, _, Res.of (rs := [.tmp 6]) rfl rfl, rfl⟩
      · intro hg26
        refine G.loadAt (by first | exact .here | exact .next .here | exact .next (.next .here) | exact .next (.next (.next .here)) | exact .next (.next (.next (.next .here))) | exact .next (.next (.next (.next (.next .here)))) | exact .next (.next (.next (.next (.next (.next .here))))) | exact .next (.next (.next (.next (.next (.next (.next .here)))))) | exact .in1 | exact .next .in1 | exact .next (.next .in1) | exact .next (.next (.next .in1)) | exact .next (.next (.next (.next .in1))) | exact .in2 | exact .next .in2 | exact .next (.next .in2) | exact .next (.next (.next .in2)) | exact .next (.next (.next (.next .in2))) | exact .app .here | exact .app (.next .here) | exact .app (.next (.next .here)) | exact .app (.next (.next (.next .here))) | exact .next (.app .here) | exact .next (.next (.app .here)) | exact .next (.next (.next (.app .here))) | exact .next (.next (.next (.next (.app .here))))) rfl ⟨_, rfl, rfl, rfl⟩ rfl rfl Try.underlying3 rfl rfl (by rfl) ?_
        refine G.bin rfl ⟨_, rfl, rfl, rfl⟩ rfl rfl rfl rfl rfl ?_
        first | refine G.pickT rfl trivial rfl rfl rfl rfl ?_ | refine G.pickF rfl trivial rfl rfl rfl rfl ?_
        refine G.nil ?_
        refine C.cond _ rfl ?_ ?_
        · intro hc1
          refine C.seq ?_
          refine C.region ?_
          refine G.assignB rfl trivial rfl rfl rfl ?_
          refine G.nil ?_
          refine C.ret ?_
          -- end g18Fg22Fg26Fc1T
          exact ⟨rfl, _, Res.of (rs := [.tmp 6]) rfl rfl, rfl⟩
        · intro hc1
          have ea : brk a = a := by unfold brk; rw [if_neg (by omega)]
          have eb : brk b = b := by unfold brk; rw [if_neg (by omega)]
          refine C.skip ?_
          refine C.seq ?_
          refine C.region ?_
          refine G.allocC (cs := [(.int .i64 0)]) rfl trivial rfl rfl I23 rfl ?_
          intro b8
          refine G.store (v := .int _ _) (by first | exact .here | exact .next .here | exact .next (.next .here) | exact .next (.next (.next .here)) | exact .next (.next (.next (.next .here))) | exact .next (.next (.next (.next (.next .here)))) | exact .next (.next (.next (.next (.next (.next .here))))) | exact .next (.next (.next (.next (.next (.next (.next .here)))))) | exact .in1 | exact .next .in1 | exact .next (.next .in1) | exact .next (.next (.next .in1)) | exact .next (.next (.next (.next .in1))) | exact .in2 | exact .next .in2 | exact .next (.next .in2) | exact .next (.next (.next .in2)) | exact .next (.next (.next (.next .in2))) | exact .app .here | exact .app (.next .here) | exact .app (.next (.next .here)) | exact .app (.next (.next (.next .here))) | exact .next (.app .here) | exact .next (.next (.app .here)) | exact .next (.next (.next (.app .here))) | exact .next (.next (.next (.next (.app .here))))) rfl trivial rfl I23 rfl rfl rfl (by first | decide | (simp; done) | (simp; omega)) _ (by first | (simp only [List.set_cons_succ, List.set_cons_zero]; done) | (simp only [List.set_cons_succ, List.set_cons_zero]; exact rfl) | exact rfl) ?_
          refine G.nil ?_
          refine C.seq ?_
          refine C.region ?_
          refine G.makeFuncL (l2 := [.pointer (some ⟨b3, 0, none⟩), .pointer (some ⟨b8, 0, none⟩), .pointer (some ⟨b5, 0, none⟩), .pointer (some ⟨b4, 0, none⟩)]) rfl trivial rfl rfl rfl rfl ?_
          refine G.call E14 rfl rfl trivial rfl rfl (tries_fault W0 _ _ 17 [] [.pointer (some ⟨b3, 0, none⟩), .pointer (some ⟨b8, 0, none⟩), .pointer (some ⟨b5, 0, none⟩), .pointer (some ⟨b4, 0, none⟩)] _ (brk b) E17 rfl (fun S => within1_t W0 S [] a b 0 b3 b4 b5 b8)) rfl ?_
          rintro e L2 ⟨rfl, rfl⟩
          refine G.moveU rfl trivial rfl rfl rfl ?_
          refine G.extractL rfl trivial rfl rfl rfl rfl ?_
          refine G.extractL rfl trivial rfl rfl rfl rfl ?_
          refine G.extractL rfl trivial rfl rfl rfl rfl ?_
          refine G.assignI rfl trivial rfl rfl rfl ?_
          first | refine G.assignW rfl trivial rfl rfl rfl ?_ | refine G.assign .nilIface rfl trivial rfl rfl rfl ?_
          refine G.assignB rfl trivial rfl rfl rfl ?_
          refine G.nil ?_
          refine C.seq ?_
          refine C.region ?_
          refine G.assignI rfl trivial rfl rfl rfl ?_
          refine G.nil ?_
          refine C.seq ?_
          refine C.seq ?_
          refine C.region ?_
          refine G.loadAt (by first | exact .here | exact .next .here | exact .next (.next .here) | exact .next (.next (.next .here)) | exact .next (.next (.next (.next .here))) | exact .next (.next (.next (.next (.next .here)))) | exact .next (.next (.next (.next (.next (.next .here))))) | exact .next (.next (.next (.next (.next (.next (.next .here)))))) | exact .in1 | exact .next .in1 | exact .next (.next .in1) | exact .next (.next (.next .in1)) | exact .next (.next (.next (.next .in1))) | exact .in2 | exact .next .in2 | exact .next (.next .in2) | exact .next (.next (.next .in2)) | exact .next (.next (.next (.next .in2))) | exact .app .here | exact .app (.next .here) | exact .app (.next (.next .here)) | exact .app (.next (.next (.next .here))) | exact .next (.app .here) | exact .next (.next (.app .here)) | exact .next (.next (.next (.app .here))) | exact .next (.next (.next (.next (.app .here))))) rfl trivial rfl rfl Try.underlying4 rfl rfl (by rfl) ?_
          refine G.nil ?_
          refine C.condT rfl ?_
          refine C.region ?_
          refine G.loadAt (by first | exact .here | exact .next .here | exact .next (.next .here) | exact .next (.next (.next .here)) | exact .next (.next (.next (.next .here))) | exact .next (.next (.next (.next (.next .here)))) | exact .next (.next (.next (.next (.next (.next .here))))) | exact .next (.next (.next (.next (.next (.next (.next .here)))))) | exact .in1 | exact .next .in1 | exact .next (.next .in1) | exact .next (.next (.next .in1)) | exact .next (.next (.next (.next .in1))) | exact .in2 | exact .next .in2 | exact .next (.next .in2) | exact .next (.next (.next .in2)) | exact .next (.next (.next (.next .in2))) | exact .app .here | exact .app (.next .here) | exact .app (.next (.next .here)) | exact .app (.next (.next (.next .here))) | exact .next (.app .here) | exact .next (.next (.app .here)) | exact .next (.next (.next (.app .here))) | exact .next (.next (.next (.next (.app .here))))) rfl trivial rfl rfl Try.underlying3 rfl rfl (by rfl) ?_
          refine G.assignI rfl trivial rfl rfl rfl ?_
          refine G.nil ?_
          refine C.seq ?_
          refine C.region ?_
          refine G.moveB rfl trivial rfl rfl rfl ?_
          refine G.moveB rfl trivial rfl rfl rfl ?_
          refine G.loadAt (by first | exact .here | exact .next .here | exact .next (.next .here) | exact .next (.next (.next .here)) | exact .next (.next (.next (.next .here))) | exact .next (.next (.next (.next (.next .here)))) | exact .next (.next (.next (.next (.next (.next .here))))) | exact .next (.next (.next (.next (.next (.next (.next .here)))))) | exact .in1 | exact .next .in1 | exact .next (.next .in1) | exact .next (.next (.next .in1)) | exact .next (.next (.next (.next .in1))) | exact .in2 | exact .next .in2 | exact .next (.next .in2) | exact .next (.next (.next .in2)) | exact .next (.next (.next (.next .in2))) | exact .app .here | exact .app (.next .here) | exact .app (.next (.next .here)) | exact .app (.next (.next (.next .here))) | exact .next (.app .here) | exact .next (.next (.app .here)) | exact .next (.next (.next (.app .here))) | exact .next (.next (.next (.next (.app .here))))) rfl ⟨_, rfl, rfl, rfl⟩ rfl rfl Try.underlying23 rfl rfl (by rfl) ?_
          refine G.loadAt (by first | exact .here | exact .next .here | exact .next (.next .here) | exact .next (.next (.next .here)) | exact .next (.next (.next (.next .here))) | exact .next (.next (.next (.next (.next .here)))) | exact .next (.next (.next (.next (.next (.next .here))))) | exact .next (.next (.next (.next (.next (.next (.next .here)))))) | exact .in1 | exact .next .in1 | exact .next (.next .in1) | exact .next (.next (.next .in1)) | exact .next (.next (.next (.next .in1))) | exact .in2 | exact .next .in2 | exact .next (.next .in2) | exact .next (.next (.next .in2)) | exact .next (.next (.next (.next .in2))) | exact .app .here | exact .app (.next .here) | exact .app (.next (.next .here)) | exact .app (.next (.next (.next .here))) | exact .next (.app .here) | exact .next (.next (.app .here)) | exact .next (.next (.next (.app .here))) | exact .next (.next (.next (.next (.app .here))))) rfl ⟨_, rfl, rfl, rfl⟩ rfl rfl Try.underlying3 rfl rfl (by rfl) ?_
          refine G.bin rfl ⟨_, rfl, rfl, rfl⟩ rfl rfl rfl rfl rfl ?_
          refine G.yes (t := 42) rfl (by rw [ea]) ?_
          first | refine G.pickT rfl trivial rfl rfl rfl rfl ?_ | refine G.pickF rfl trivial rfl rfl rfl rfl ?_
          refine G.moveB rfl trivial rfl rfl rfl ?_
          refine G.moveI rfl ⟨_, rfl, rfl, rfl⟩ rfl rfl rfl ?_
          refine G.moveI rfl ⟨_, rfl, rfl, rfl⟩ rfl rfl rfl ?_
          refine G.bin rfl ⟨_, rfl, rfl, rfl⟩ rfl rfl rfl rfl rfl ?_
          refine G.yes (t := 47) rfl (by rw [eb]) ?_
          first | refine G.pickT rfl trivial rfl rfl rfl rfl ?_ | refine G.pickF rfl trivial rfl rfl rfl rfl ?_
          refine G.assignB rfl trivial rfl rfl rfl ?_
          refine G.nil ?_
          refine C.ret ?_
          -- end g18Fg22Fg26Fc1F
          exact ⟨rfl, _, Res.of (rs := [.tmp 6]) rfl rfl, rfl⟩
theorem within_walk_f (W0 : World) (a b : Int) :
    FnS Try.prog W0 5 #[.int .i64 a, .int .i64 b, .bool false] [] (fun e _ => e = .returned (.bool true)) := by
  refine FnS.of (args := [.int .i64 a, .int .i64 b, .bool false]) Try.func5 rfl rfl ?_
  refine C.seq ?_
  refine C.region ?_
  refine G.boxI rfl trivial rfl rfl rfl ?_
  intro b3
  refine G.boxI rfl trivial rfl rfl rfl ?_
  intro b4
  refine G.boxB rfl trivial rfl rfl rfl ?_
  intro b5
  refine G.assignB rfl trivial rfl rfl rfl ?_
  refine G.nil ?_
  refine C.seq ?_
  refine C.region ?_
  refine G.call E10 rfl rfl trivial rfl rfl (begun_spec W0 _) rfl ?_
  rintro e L2 ⟨rfl, rfl⟩
  refine G.assignB rfl trivial rfl rfl rfl ?_
  refine G.nil ?_
  refine C.seq ?_
  refine C.seq ?_
  refine C.region ?_
  refine G.moveB rfl trivial rfl rfl rfl ?_
  first | refine G.notD rfl trivial rfl rfl rfl ?_ | refine G.not rfl trivial rfl rfl rfl ?_
  refine G.nil ?_
  refine C.condF rfl ?_
  refine C.skip ?_
  refine C.seq ?_
  refine C.seq ?_
  refine C.region ?_
  refine G.loadAt (by first | exact .here | exact .next .here | exact .next (.next .here) | exact .next (.next (.next .here)) | exact .next (.next (.next (.next .here))) | exact .next (.next (.next (.next (.next .here)))) | exact .next (.next (.next (.next (.next (.next .here))))) | exact .next (.next (.next (.next (.next (.next (.next .here)))))) | exact .in1 | exact .next .in1 | exact .next (.next .in1) | exact .next (.next (.next .in1)) | exact .next (.next (.next (.next .in1))) | exact .in2 | exact .next .in2 | exact .next (.next .in2) | exact .next (.next (.next .in2)) | exact .next (.next (.next (.next .in2))) | exact .app .here | exact .app (.next .here) | exact .app (.next (.next .here)) | exact .app (.next (.next (.next .here))) | exact .next (.app .here) | exact .next (.next (.app .here)) | exact .next (.next (.next (.app .here))) | exact .next (.next (.next (.next (.app .here))))) rfl trivial rfl rfl Try.underlying3 rfl rfl (by rfl) ?_
  refine G.bin rfl trivial rfl rfl rfl rfl rfl ?_
  refine G.moveB rfl trivial rfl rfl rfl ?_
  refine G.fork (t := 18) _ rfl ?_ ?_
  · intro hg18
    refine G.skip rfl rfl rfl rfl rfl rfl ?_
    refine G.skip rfl rfl rfl rfl rfl rfl ?_
    first | refine G.pickT rfl trivial rfl rfl rfl rfl ?_ | refine G.pickF rfl trivial rfl rfl rfl rfl ?_
    refine G.moveB rfl trivial rfl rfl rfl ?_
    refine G.skip rfl rfl rfl rfl rfl rfl ?_
    refine G.skip rfl rfl rfl rfl rfl rfl ?_
    first | refine G.pickT rfl trivial rfl rfl rfl rfl ?_ | refine G.pickF rfl trivial rfl rfl rfl rfl ?_
    refine G.moveB rfl trivial rfl rfl rfl ?_
    refine G.skip rfl rfl rfl rfl rfl rfl ?_
    refine G.skip rfl rfl rfl rfl rfl rfl ?_
    first | refine G.pickT rfl trivial rfl rfl rfl rfl ?_ | refine G.pickF rfl trivial rfl rfl rfl rfl ?_
    refine G.nil ?_
    refine C.condT rfl ?_
    refine C.seq ?_
    refine C.region ?_
    refine G.assignB rfl trivial rfl rfl rfl ?_
    refine G.nil ?_
    refine C.ret ?_
    -- end g18T
    exact ⟨rfl, _, Res.of (rs := [.tmp 6]) rfl rfl, rfl⟩
  · intro hg18
    refine G.loadAt (by first | exact .here | exact .next .here | exact .next (.next .here) | exact .next (.next (.next .here)) | exact .next (.next (.next (.next .here))) | exact .next (.next (.next (.next (.next .here)))) | exact .next (.next (.next (.next (.next (.next .here))))) | exact .next (.next (.next (.next (.next (.next (.next .here)))))) | exact .in1 | exact .next .in1 | exact .next (.next .in1) | exact .next (.next (.next .in1)) | exact .next (.next (.next (.next .in1))) | exact .in2 | exact .next .in2 | exact .next (.next .in2) | exact .next (.next (.next .in2)) | exact .next (.next (.next (.next .in2))) | exact .app .here | exact .app (.next .here) | exact .app (.next (.next .here)) | exact .app (.next (.next (.next .here))) | exact .next (.app .here) | exact .next (.next (.app .here)) | exact .next (.next (.next (.app .here))) | exact .next (.next (.next (.next (.app .here))))) rfl ⟨_, rfl, rfl, rfl⟩ rfl rfl Try.underlying3 rfl rfl (by rfl) ?_
    refine G.bin rfl ⟨_, rfl, rfl, rfl⟩ rfl rfl rfl rfl rfl ?_
    first | refine G.pickT rfl trivial rfl rfl rfl rfl ?_ | refine G.pickF rfl trivial rfl rfl rfl rfl ?_
    refine G.moveB rfl trivial rfl rfl rfl ?_
    refine G.fork (t := 22) _ rfl ?_ ?_
    · intro hg22
      refine G.skip rfl rfl rfl rfl rfl rfl ?_
      refine G.skip rfl rfl rfl rfl rfl rfl ?_
      first | refine G.pickT rfl trivial rfl rfl rfl rfl ?_ | refine G.pickF rfl trivial rfl rfl rfl rfl ?_
      refine G.moveB rfl trivial rfl rfl rfl ?_
      refine G.skip rfl rfl rfl rfl rfl rfl ?_
      refine G.skip rfl rfl rfl rfl rfl rfl ?_
      first | refine G.pickT rfl trivial rfl rfl rfl rfl ?_ | refine G.pickF rfl trivial rfl rfl rfl rfl ?_
      refine G.nil ?_
      refine C.condT rfl ?_
      refine C.seq ?_
      refine C.region ?_
      refine G.assignB rfl trivial rfl rfl rfl ?_
      refine G.nil ?_
      refine C.ret ?_
      -- end g18Fg22T
      exact ⟨rfl, _, Res.of (rs := [.tmp 6]) rfl rfl, rfl⟩
    · intro hg22
      refine G.loadAt (by first | exact .here | exact .next .here | exact .next (.next .here) | exact .next (.next (.next .here)) | exact .next (.next (.next (.next .here))) | exact .next (.next (.next (.next (.next .here)))) | exact .next (.next (.next (.next (.next (.next .here))))) | exact .next (.next (.next (.next (.next (.next (.next .here)))))) | exact .in1 | exact .next .in1 | exact .next (.next .in1) | exact .next (.next (.next .in1)) | exact .next (.next (.next (.next .in1))) | exact .in2 | exact .next .in2 | exact .next (.next .in2) | exact .next (.next (.next .in2)) | exact .next (.next (.next (.next .in2))) | exact .app .here | exact .app (.next .here) | exact .app (.next (.next .here)) | exact .app (.next (.next (.next .here))) | exact .next (.app .here) | exact .next (.next (.app .here)) | exact .next (.next (.next (.app .here))) | exact .next (.next (.next (.next (.app .here))))) rfl ⟨_, rfl, rfl, rfl⟩ rfl rfl Try.underlying3 rfl rfl (by rfl) ?_
      refine G.bin rfl ⟨_, rfl, rfl, rfl⟩ rfl rfl rfl rfl rfl ?_
      first | refine G.pickT rfl trivial rfl rfl rfl rfl ?_ | refine G.pickF rfl trivial rfl rfl rfl rfl ?_
      refine G.moveB rfl trivial rfl rfl rfl ?_
      refine G.fork (t := 26) _ rfl ?_ ?_
      · intro hg26
        refine G.skip rfl rfl rfl rfl rfl rfl ?_
        refine G.skip rfl rfl rfl rfl rfl rfl ?_
        first | refine G.pickT rfl trivial rfl rfl rfl rfl ?_ | refine G.pickF rfl trivial rfl rfl rfl rfl ?_
        refine G.nil ?_
        refine C.condT rfl ?_
        refine C.seq ?_
        refine C.region ?_
        refine G.assignB rfl trivial rfl rfl rfl ?_
        refine G.nil ?_
        refine C.ret ?_
        -- end g18Fg22Fg26T
        exact ⟨rfl, _, Res.of (rs := [.tmp 6]) rfl rfl, rfl⟩
      · intro hg26
        refine G.loadAt (by first | exact .here | exact .next .here | exact .next (.next .here) | exact .next (.next (.next .here)) | exact .next (.next (.next (.next .here))) | exact .next (.next (.next (.next (.next .here)))) | exact .next (.next (.next (.next (.next (.next .here))))) | exact .next (.next (.next (.next (.next (.next (.next .here)))))) | exact .in1 | exact .next .in1 | exact .next (.next .in1) | exact .next (.next (.next .in1)) | exact .next (.next (.next (.next .in1))) | exact .in2 | exact .next .in2 | exact .next (.next .in2) | exact .next (.next (.next .in2)) | exact .next (.next (.next (.next .in2))) | exact .app .here | exact .app (.next .here) | exact .app (.next (.next .here)) | exact .app (.next (.next (.next .here))) | exact .next (.app .here) | exact .next (.next (.app .here)) | exact .next (.next (.next (.app .here))) | exact .next (.next (.next (.next (.app .here))))) rfl ⟨_, rfl, rfl, rfl⟩ rfl rfl Try.underlying3 rfl rfl (by rfl) ?_
        refine G.bin rfl ⟨_, rfl, rfl, rfl⟩ rfl rfl rfl rfl rfl ?_
        first | refine G.pickT rfl trivial rfl rfl rfl rfl ?_ | refine G.pickF rfl trivial rfl rfl rfl rfl ?_
        refine G.nil ?_
        refine C.cond _ rfl ?_ ?_
        · intro hc1
          refine C.seq ?_
          refine C.region ?_
          refine G.assignB rfl trivial rfl rfl rfl ?_
          refine G.nil ?_
          refine C.ret ?_
          -- end g18Fg22Fg26Fc1T
          exact ⟨rfl, _, Res.of (rs := [.tmp 6]) rfl rfl, rfl⟩
        · intro hc1
          have ea : brk a = a := by unfold brk; rw [if_neg (by omega)]
          have eb : brk b = b := by unfold brk; rw [if_neg (by omega)]
          refine C.skip ?_
          refine C.seq ?_
          refine C.region ?_
          refine G.allocC (cs := [(.int .i64 0)]) rfl trivial rfl rfl I23 rfl ?_
          intro b8
          refine G.store (v := .int _ _) (by first | exact .here | exact .next .here | exact .next (.next .here) | exact .next (.next (.next .here)) | exact .next (.next (.next (.next .here))) | exact .next (.next (.next (.next (.next .here)))) | exact .next (.next (.next (.next (.next (.next .here))))) | exact .next (.next (.next (.next (.next (.next (.next .here)))))) | exact .in1 | exact .next .in1 | exact .next (.next .in1) | exact .next (.next (.next .in1)) | exact .next (.next (.next (.next .in1))) | exact .in2 | exact .next .in2 | exact .next (.next .in2) | exact .next (.next (.next .in2)) | exact .next (.next (.next (.next .in2))) | exact .app .here | exact .app (.next .here) | exact .app (.next (.next .here)) | exact .app (.next (.next (.next .here))) | exact .next (.app .here) | exact .next (.next (.app .here)) | exact .next (.next (.next (.app .here))) | exact .next (.next (.next (.next (.app .here))))) rfl trivial rfl I23 rfl rfl rfl (by first | decide | (simp; done) | (simp; omega)) _ (by first | (simp only [List.set_cons_succ, List.set_cons_zero]; done) | (simp only [List.set_cons_succ, List.set_cons_zero]; exact rfl) | exact rfl) ?_
          refine G.nil ?_
          refine C.seq ?_
          refine C.region ?_
          refine G.makeFuncL (l2 := [.pointer (some ⟨b3, 0, none⟩), .pointer (some ⟨b8, 0, none⟩), .pointer (some ⟨b5, 0, none⟩), .pointer (some ⟨b4, 0, none⟩)]) rfl trivial rfl rfl rfl rfl ?_
          refine G.call E14 rfl rfl trivial rfl rfl (tries_ok W0 _ _ 17 [] [.pointer (some ⟨b3, 0, none⟩), .pointer (some ⟨b8, 0, none⟩), .pointer (some ⟨b5, 0, none⟩), .pointer (some ⟨b4, 0, none⟩)] _ _ E17 rfl (fun S => within1_f W0 S [] a b 0 b3 b4 b5 b8)) rfl ?_
          rintro e L2 ⟨rfl, rfl⟩
          refine G.moveU rfl trivial rfl rfl rfl ?_
          refine G.extractL rfl trivial rfl rfl rfl rfl ?_
          refine G.extractL rfl trivial rfl rfl rfl rfl ?_
          refine G.extractL rfl trivial rfl rfl rfl rfl ?_
          refine G.assignI rfl trivial rfl rfl rfl ?_
          first | refine G.assignW rfl trivial rfl rfl rfl ?_ | refine G.assign .nilIface rfl trivial rfl rfl rfl ?_
          refine G.assignB rfl trivial rfl rfl rfl ?_
          refine G.nil ?_
          refine C.seq ?_
          refine C.region ?_
          refine G.assignI rfl trivial rfl rfl rfl ?_
          refine G.nil ?_
          refine C.seq ?_
          refine C.seq ?_
          refine C.region ?_
          refine G.loadAt (by first | exact .here | exact .next .here | exact .next (.next .here) | exact .next (.next (.next .here)) | exact .next (.next (.next (.next .here))) | exact .next (.next (.next (.next (.next .here)))) | exact .next (.next (.next (.next (.next (.next .here))))) | exact .next (.next (.next (.next (.next (.next (.next .here)))))) | exact .in1 | exact .next .in1 | exact .next (.next .in1) | exact .next (.next (.next .in1)) | exact .next (.next (.next (.next .in1))) | exact .in2 | exact .next .in2 | exact .next (.next .in2) | exact .next (.next (.next .in2)) | exact .next (.next (.next (.next .in2))) | exact .app .here | exact .app (.next .here) | exact .app (.next (.next .here)) | exact .app (.next (.next (.next .here))) | exact .next (.app .here) | exact .next (.next (.app .here)) | exact .next (.next (.next (.app .here))) | exact .next (.next (.next (.next (.app .here))))) rfl trivial rfl rfl Try.underlying4 rfl rfl (by rfl) ?_
          refine G.nil ?_
          refine C.condF rfl ?_
          refine C.skip ?_
          refine C.seq ?_
          refine C.region ?_
          refine G.moveB rfl trivial rfl rfl rfl ?_
          refine G.moveB rfl trivial rfl rfl rfl ?_
          refine G.loadAt (by first | exact .here | exact .next .here | exact .next (.next .here) | exact .next (.next (.next .here)) | exact .next (.next (.next (.next .here))) | exact .next (.next (.next (.next (.next .here)))) | exact .next (.next (.next (.next (.next (.next .here))))) | exact .next (.next (.next (.next (.next (.next (.next .here)))))) | exact .in1 | exact .next .in1 | exact .next (.next .in1) | exact .next (.next (.next .in1)) | exact .next (.next (.next (.next .in1))) | exact .in2 | exact .next .in2 | exact .next (.next .in2) | exact .next (.next (.next .in2)) | exact .next (.next (.next (.next .in2))) | exact .app .here | exact .app (.next .here) | exact .app (.next (.next .here)) | exact .app (.next (.next (.next .here))) | exact .next (.app .here) | exact .next (.next (.app .here)) | exact .next (.next (.next (.app .here))) | exact .next (.next (.next (.next (.app .here))))) rfl ⟨_, rfl, rfl, rfl⟩ rfl rfl Try.underlying23 rfl rfl (by rfl) ?_
          refine G.loadAt (by first | exact .here | exact .next .here | exact .next (.next .here) | exact .next (.next (.next .here)) | exact .next (.next (.next (.next .here))) | exact .next (.next (.next (.next (.next .here)))) | exact .next (.next (.next (.next (.next (.next .here))))) | exact .next (.next (.next (.next (.next (.next (.next .here)))))) | exact .in1 | exact .next .in1 | exact .next (.next .in1) | exact .next (.next (.next .in1)) | exact .next (.next (.next (.next .in1))) | exact .in2 | exact .next .in2 | exact .next (.next .in2) | exact .next (.next (.next .in2)) | exact .next (.next (.next (.next .in2))) | exact .app .here | exact .app (.next .here) | exact .app (.next (.next .here)) | exact .app (.next (.next (.next .here))) | exact .next (.app .here) | exact .next (.next (.app .here)) | exact .next (.next (.next (.app .here))) | exact .next (.next (.next (.next (.app .here))))) rfl ⟨_, rfl, rfl, rfl⟩ rfl rfl Try.underlying3 rfl rfl (by rfl) ?_
          refine G.bin rfl ⟨_, rfl, rfl, rfl⟩ rfl rfl rfl rfl rfl ?_
          refine G.yes (t := 42) rfl (by rw [ea]) ?_
          first | refine G.pickT rfl trivial rfl rfl rfl rfl ?_ | refine G.pickF rfl trivial rfl rfl rfl rfl ?_
          refine G.moveB rfl trivial rfl rfl rfl ?_
          refine G.moveI rfl ⟨_, rfl, rfl, rfl⟩ rfl rfl rfl ?_
          refine G.moveI rfl ⟨_, rfl, rfl, rfl⟩ rfl rfl rfl ?_
          refine G.bin rfl ⟨_, rfl, rfl, rfl⟩ rfl rfl rfl rfl rfl ?_
          refine G.yes (t := 47) rfl rfl ?_
          first | refine G.pickT rfl trivial rfl rfl rfl rfl ?_ | refine G.pickF rfl trivial rfl rfl rfl rfl ?_
          refine G.assignB rfl trivial rfl rfl rfl ?_
          refine G.nil ?_
          refine C.ret ?_
          -- end g18Fg22Fg26Fc1F
          exact ⟨rfl, _, Res.of (rs := [.tmp 6]) rfl rfl, rfl⟩
end Go.Proofs.Ytiacjhloldmkjaa
