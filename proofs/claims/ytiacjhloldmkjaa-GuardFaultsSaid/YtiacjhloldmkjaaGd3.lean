/-
  The laws of guard, walked: who breaks with OK; a try that broke; what is put right on the way out.
-/
import Derived.Test.YtiacjhloldmkjaaGd2
namespace Go.Proofs.Ytiacjhloldmkjaa
open Go Go.SL Go.RowKit

theorem brokenD (W0 : World) (L : List Seg) (n x : Int) (y : Bool) (b4 b5 : Nat) : DfS Try.prog W0 32 #[.pointer (some ⟨b4, 0, none⟩), .pointer (some ⟨b5, 0, none⟩)] (.panicking (fault n)) ([(b5, .row [.bool y] 4 1)] :: [(b4, .row [.int .i64 x] 36 1)] :: L)
    (fun e u' L' => L' = [(b5, .row [.bool true] 4 1)] :: [(b4, .row [.int .i64 n] 36 1)] :: L ∧ u' = .panicking [{ v := faultV n, recovered := true }] ∧ e = .returned (.tuple #[])) := by
  refine DfS.ofS (args := [.pointer (some ⟨b4, 0, none⟩), .pointer (some ⟨b5, 0, none⟩)]) Try.func32 rfl rfl ?_
  refine CS.region ?_
  refine GS.catches rfl rfl rfl rfl ?_
  refine GS.ofG (fun _ _ _ h => h) ?_
  first | refine G.isType rfl trivial rfl rfl Try.underlying36 rfl rfl ?_ | refine G.notType rfl trivial rfl rfl Try.underlying36 rfl I36 rfl (by decide) ?_ | refine G.noType rfl trivial rfl rfl Try.underlying36 rfl I36 rfl ?_
  refine G.moveU rfl trivial rfl rfl rfl ?_
  refine G.extractL rfl trivial rfl rfl rfl rfl ?_
  refine G.extractL rfl trivial rfl rfl rfl rfl ?_
  refine G.storeS (by first | exact .here | exact .next .here | exact .next (.next .here) | exact .next (.next (.next .here)) | exact .next (.next (.next (.next .here))) | exact .next (.next (.next (.next (.next .here)))) | exact .next (.next (.next (.next (.next (.next .here))))) | exact .next (.next (.next (.next (.next (.next (.next .here)))))) | exact .in1 | exact .next .in1 | exact .next (.next .in1) | exact .next (.next (.next .in1)) | exact .next (.next (.next (.next .in1))) | exact .in2 | exact .next .in2 | exact .next (.next .in2) | exact .next (.next (.next .in2)) | exact .next (.next (.next (.next .in2))) | exact .app .here | exact .app (.next .here) | exact .app (.next (.next .here)) | exact .app (.next (.next (.next .here))) | exact .next (.app .here) | exact .next (.next (.app .here)) | exact .next (.next (.next (.app .here))) | exact .next (.next (.next (.next (.app .here))))) rfl trivial rfl I36 rfl rfl rfl (by simp [cellsOk]) (by first | decide | simp) _ rfl ?_
  refine G.store (v := .bool _) (by first | exact .here | exact .next .here | exact .next (.next .here) | exact .next (.next (.next .here)) | exact .next (.next (.next (.next .here))) | exact .next (.next (.next (.next (.next .here)))) | exact .next (.next (.next (.next (.next (.next .here))))) | exact .next (.next (.next (.next (.next (.next (.next .here)))))) | exact .in1 | exact .next .in1 | exact .next (.next .in1) | exact .next (.next (.next .in1)) | exact .next (.next (.next (.next .in1))) | exact .in2 | exact .next .in2 | exact .next (.next .in2) | exact .next (.next (.next .in2)) | exact .next (.next (.next (.next .in2))) | exact .app .here | exact .app (.next .here) | exact .app (.next (.next .here)) | exact .app (.next (.next (.next .here))) | exact .next (.app .here) | exact .next (.next (.app .here)) | exact .next (.next (.next (.app .here))) | exact .next (.next (.next (.next (.app .here))))) rfl trivial rfl I4 rfl rfl rfl (by first | decide | (simp; done) | (simp; omega)) _ (by first | (simp only [List.set_cons_succ, List.set_cons_zero]; done) | (simp only [List.set_cons_succ, List.set_cons_zero]; exact rfl) | exact rfl) ?_
  refine G.nil ?_
  -- end 
  exact ⟨rfl, _, Res.of (rs := []) rfl rfl, rfl, rfl, rfl⟩
theorem broken_spec (W0 : World) (L : List Seg) (n : Int) (c : Bool) : FnS Try.prog W0 20 #[.int .i64 n, .bool c] L (fun e L' => L' = L ∧ e = .returned (.tuple #[.agg #[.int .i64 (brk n)], .bool true])) := by
  refine FnS.ofD (args := [.int .i64 n, .bool c]) Try.func20 rfl rfl ?_
  refine C.seq ?_
  refine C.region ?_
  refine G.allocC (cs := [(.int .i64 0)]) rfl trivial rfl rfl I36 rfl ?_
  intro b4
  refine G.allocC (cs := [(.bool false)]) rfl trivial rfl rfl I4 rfl ?_
  intro b5
  refine G.nil ?_
  refine C.seq ?_
  refine C.region ?_
  refine G.makeFuncL (l2 := [.pointer (some ⟨b4, 0, none⟩), .pointer (some ⟨b5, 0, none⟩)]) rfl trivial rfl rfl rfl rfl ?_
  refine G.deferF rfl trivial rfl rfl rfl rfl ?_
  refine G.nil ?_
  refine C.seq ?_
  refine C.seq ?_
  refine C.region ?_
  refine G.moveB rfl trivial rfl rfl rfl ?_
  refine G.nil ?_
  refine C.condB _ rfl ?_ ?_
  · intro hc0
    refine C.region ?_
    refine G.moveI rfl trivial rfl rfl rfl ?_
    refine G.call E12 rfl rfl trivial rfl rfl (check_breaks W0 _ n) rfl ?_
    rintro e L2 ⟨rfl, rfl⟩
    refine Lv.cons (by simp) E32 (brokenD W0 L (brk n) 0 false b4 b5) rfl ?_
    rintro e u2 L2 ⟨rfl, rfl, rfl⟩
    exact Lv.retL (Res.two (v := .agg #[.int .i64 (brk n)]) (u := .bool true) rfl (RV.agg (vs := [.int .i64 (brk n)]) (.next .here) rfl Try.underlying36 rfl I36 rfl (fun j v h => by simpa using h)) (RV.cell At.here rfl Try.underlying4 rfl rfl)) (fun _ h => h.tail.tail) ⟨rfl, rfl⟩
  · intro hc0
    refine C.skip ?_
    refine C.seq ?_
    refine C.region ?_
    refine G.moveI rfl trivial rfl rfl rfl ?_
    refine G.call E13 rfl rfl trivial rfl rfl (break_spec W0 _ n) rfl ?_
    rintro e L2 ⟨rfl, rfl⟩
    refine Lv.cons (by simp) E32 (brokenD W0 L (brk n) 0 false b4 b5) rfl ?_
    rintro e u2 L2 ⟨rfl, rfl, rfl⟩
    exact Lv.retL (Res.two (v := .agg #[.int .i64 (brk n)]) (u := .bool true) rfl (RV.agg (vs := [.int .i64 (brk n)]) (.next .here) rfl Try.underlying36 rfl I36 rfl (fun j v h => by simpa using h)) (RV.cell At.here rfl Try.underlying4 rfl rfl)) (fun _ h => h.tail.tail) ⟨rfl, rfl⟩
theorem nil_walk (W0 : World) (n : Int) (c : Bool) :
    FnS Try.prog W0 6 #[.int .i64 n, .bool c] [] (fun e _ => e = .returned (.bool true)) := by
  refine FnS.of (args := [.int .i64 n, .bool c]) Try.func6 rfl rfl ?_
  refine C.seq ?_
  refine C.region ?_
  refine G.assignB rfl trivial rfl rfl rfl ?_
  refine G.nil ?_
  refine C.seq ?_
  refine C.region ?_
  refine G.call E10 rfl rfl trivial rfl rfl (begun_spec W0 _) rfl ?_
  rintro e L2 ⟨rfl, rfl⟩
  refine G.assignB rfl trivial rfl rfl rfl ?_
  refine G.nil ?_
  refine C.seq ?_
  refine C.seq ?_
  refine C.region ?_
  refine G.moveB rfl trivial rfl rfl rfl ?_
  first | refine G.notD rfl trivial rfl rfl rfl ?_ | refine G.not rfl trivial rfl rfl rfl ?_
  refine G.nil ?_
  refine C.condF rfl ?_
  refine C.skip ?_
  refine C.seq ?_
  refine C.region ?_
  refine G.moveI rfl trivial rfl rfl rfl ?_
  refine G.assignI rfl trivial rfl rfl rfl ?_
  refine G.nil ?_
  refine C.seq ?_
  refine C.seq ?_
  refine C.region ?_
  refine G.moveI rfl trivial rfl rfl rfl ?_
  refine G.bin rfl trivial rfl rfl rfl rfl rfl ?_
  refine G.nil ?_
  refine C.cond _ rfl ?_ ?_
  · intro hc1
    refine C.region ?_
    refine G.assignI rfl trivial rfl rfl rfl ?_
    refine G.nil ?_
    refine C.seq ?_
    refine C.region ?_
    refine G.moveI rfl trivial rfl rfl rfl ?_
    refine G.moveB rfl trivial rfl rfl rfl ?_
    refine G.call E20 rfl rfl trivial rfl rfl (broken_spec W0 _ n c) rfl ?_
    rintro e L2 ⟨rfl, rfl⟩
    refine G.moveU rfl trivial rfl rfl rfl ?_
    refine G.extractL rfl trivial rfl rfl rfl rfl ?_
    refine G.extractL rfl trivial rfl rfl rfl rfl ?_
    refine G.allocC (cs := [(.int .i64 0)]) rfl trivial rfl rfl I36 rfl ?_
    intro b7
    refine G.storeS (by first | exact .here | exact .next .here | exact .next (.next .here) | exact .next (.next (.next .here)) | exact .next (.next (.next (.next .here))) | exact .next (.next (.next (.next (.next .here)))) | exact .next (.next (.next (.next (.next (.next .here))))) | exact .next (.next (.next (.next (.next (.next (.next .here)))))) | exact .in1 | exact .next .in1 | exact .next (.next .in1) | exact .next (.next (.next .in1)) | exact .next (.next (.next (.next .in1))) | exact .in2 | exact .next .in2 | exact .next (.next .in2) | exact .next (.next (.next .in2)) | exact .next (.next (.next (.next .in2))) | exact .app .here | exact .app (.next .here) | exact .app (.next (.next .here)) | exact .app (.next (.next (.next .here))) | exact .next (.app .here) | exact .next (.next (.app .here)) | exact .next (.next (.next (.app .here))) | exact .next (.next (.next (.next (.app .here))))) rfl trivial rfl I36 rfl rfl rfl (by simp [cellsOk]) (by first | decide | simp) _ rfl ?_
    refine G.assignB rfl trivial rfl rfl rfl ?_
    refine G.nil ?_
    refine C.seq ?_
    refine C.region ?_
    refine G.moveB rfl trivial rfl rfl rfl ?_
    refine G.moveB rfl trivial rfl rfl rfl ?_
    refine G.fieldAddr rfl ⟨_, rfl, rfl, rfl⟩ rfl rfl Try.underlying36 rfl I23 rfl rfl ?_
    refine G.loadAt (by first | exact .here | exact .next .here | exact .next (.next .here) | exact .next (.next (.next .here)) | exact .next (.next (.next (.next .here))) | exact .next (.next (.next (.next (.next .here)))) | exact .next (.next (.next (.next (.next (.next .here))))) | exact .next (.next (.next (.next (.next (.next (.next .here)))))) | exact .in1 | exact .next .in1 | exact .next (.next .in1) | exact .next (.next (.next .in1)) | exact .next (.next (.next (.next .in1))) | exact .in2 | exact .next .in2 | exact .next (.next .in2) | exact .next (.next (.next .in2)) | exact .next (.next (.next (.next .in2))) | exact .app .here | exact .app (.next .here) | exact .app (.next (.next .here)) | exact .app (.next (.next (.next .here))) | exact .next (.app .here) | exact .next (.next (.app .here)) | exact .next (.next (.next (.app .here))) | exact .next (.next (.next (.next (.app .here))))) rfl ⟨_, rfl, rfl, rfl⟩ rfl rfl Try.underlying23 rfl rfl (by rfl) ?_
    refine G.moveI rfl ⟨_, rfl, rfl, rfl⟩ rfl rfl rfl ?_
    refine G.bin rfl ⟨_, rfl, rfl, rfl⟩ rfl rfl rfl rfl rfl ?_
    refine G.yes (t := 26) rfl (by unfold brk; rw [if_pos hc1]) ?_
    first | refine G.pickT rfl trivial rfl rfl rfl rfl ?_ | refine G.pickF rfl trivial rfl rfl rfl rfl ?_
    refine G.assignB rfl trivial rfl rfl rfl ?_
    refine G.nil ?_
    refine C.ret ?_
    -- end c1T
    exact ⟨rfl, _, Res.of (rs := [.tmp 4]) rfl rfl, rfl⟩
  · intro hc1
    refine C.skip ?_
    refine C.seq ?_
    refine C.region ?_
    refine G.moveI rfl trivial rfl rfl rfl ?_
    refine G.moveB rfl trivial rfl rfl rfl ?_
    refine G.call E20 rfl rfl trivial rfl rfl (broken_spec W0 _ n c) rfl ?_
    rintro e L2 ⟨rfl, rfl⟩
    refine G.moveU rfl trivial rfl rfl rfl ?_
    refine G.extractL rfl trivial rfl rfl rfl rfl ?_
    refine G.extractL rfl trivial rfl rfl rfl rfl ?_
    refine G.allocC (cs := [(.int .i64 0)]) rfl trivial rfl rfl I36 rfl ?_
    intro b7
    refine G.storeS (by first | exact .here | exact .next .here | exact .next (.next .here) | exact .next (.next (.next .here)) | exact .next (.next (.next (.next .here))) | exact .next (.next (.next (.next (.next .here)))) | exact .next (.next (.next (.next (.next (.next .here))))) | exact .next (.next (.next (.next (.next (.next (.next .here)))))) | exact .in1 | exact .next .in1 | exact .next (.next .in1) | exact .next (.next (.next .in1)) | exact .next (.next (.next (.next .in1))) | exact .in2 | exact .next .in2 | exact .next (.next .in2) | exact .next (.next (.next .in2)) | exact .next (.next (.next (.next .in2))) | exact .app .here | exact .app (.next .here) | exact .app (.next (.next .here)) | exact .app (.next (.next (.next .here))) | exact .next (.app .here) | exact .next (.next (.app .here)) | exact .next (.next (.next (.app .here))) | exact .next (.next (.next (.next (.app .here))))) rfl trivial rfl I36 rfl rfl rfl (by simp [cellsOk]) (by first | decide | simp) _ rfl ?_
    refine G.assignB rfl trivial rfl rfl rfl ?_
    refine G.nil ?_
    refine C.seq ?_
    refine C.region ?_
    refine G.moveB rfl trivial rfl rfl rfl ?_
    refine G.moveB rfl trivial rfl rfl rfl ?_
    refine G.fieldAddr rfl ⟨_, rfl, rfl, rfl⟩ rfl rfl Try.underlying36 rfl I23 rfl rfl ?_
    refine G.loadAt (by first | exact .here | exact .next .here | exact .next (.next .here) | exact .next (.next (.next .here)) | exact .next (.next (.next (.next .here))) | exact .next (.next (.next (.next (.next .here)))) | exact .next (.next (.next (.next (.next (.next .here))))) | exact .next (.next (.next (.next (.next (.next (.next .here)))))) | exact .in1 | exact .next .in1 | exact .next (.next .in1) | exact .next (.next (.next .in1)) | exact .next (.next (.next (.next .in1))) | exact .in2 | exact .next .in2 | exact .next (.next .in2) | exact .next (.next (.next .in2)) | exact .next (.next (.next (.next .in2))) | exact .app .here | exact .app (.next .here) | exact .app (.next (.next .here)) | exact .app (.next (.next (.next .here))) | exact .next (.app .here) | exact .next (.next (.app .here)) | exact .next (.next (.next (.app .here))) | exact .next (.next (.next (.next (.app .here))))) rfl ⟨_, rfl, rfl, rfl⟩ rfl rfl Try.underlying23 rfl rfl (by rfl) ?_
    refine G.moveI rfl ⟨_, rfl, rfl, rfl⟩ rfl rfl rfl ?_
    refine G.bin rfl ⟨_, rfl, rfl, rfl⟩ rfl rfl rfl rfl rfl ?_
    refine G.yes (t := 26) rfl (by unfold brk; rw [if_neg hc1]) ?_
    first | refine G.pickT rfl trivial rfl rfl rfl rfl ?_ | refine G.pickF rfl trivial rfl rfl rfl rfl ?_
    refine G.assignB rfl trivial rfl rfl rfl ?_
    refine G.nil ?_
    refine C.ret ?_
    -- end c1F
    exact ⟨rfl, _, Res.of (rs := [.tmp 4]) rfl rfl, rfl⟩

/-! ### A try that broke -/
def and7 (z : Int) : Int := IntKind.i64.wrap (BitVec.ofInt IntKind.i64.bits z &&& BitVec.ofInt IntKind.i64.bits 7).toNat
theorem and7_le (z : Int) : 0 ≤ and7 z ∧ and7 z ≤ 7 := by
  have h : (BitVec.ofInt 64 z &&& BitVec.ofInt 64 7).toNat ≤ 7 := by
    rw [BitVec.toNat_and]
    exact Nat.and_le_right
  have e : and7 z = ((BitVec.ofInt 64 z &&& BitVec.ofInt 64 7).toNat : Int) := by
    show IntKind.i64.wrap ((BitVec.ofInt 64 z &&& BitVec.ofInt 64 7).toNat : Int) = _
    rw [wrap_i64 (by omega)]
  omega
theorem again1_spec (W0 : World) (L : List Seg) (a : Int) (b5 : Nat) {u : Nat → SObj → List Seg} (ha : At L b5 (.row [.int .i64 a] 23 1) u) : FnS Try.prog W0 24 #[.pointer (some ⟨b5, 0, none⟩)] L (fun e L' => L' = L ∧ e = .panicked (fault (brk a))) := by
  refine FnS.of (args := [.pointer (some ⟨b5, 0, none⟩)]) Try.func24 rfl rfl ?_
  refine C.region ?_
  refine G.loadAt ha rfl trivial rfl rfl Try.underlying23 rfl rfl rfl ?_
  refine G.call E13 rfl rfl trivial rfl rfl (break_spec W0 _ a) rfl ?_
  rintro e L2 ⟨rfl, rfl⟩
  exact ⟨rfl, rfl, rfl⟩
theorem again2_spec (W0 : World) (L : List Seg) : FnS Try.prog W0 25 #[] L (fun e L' => L' = L ∧ e = .returned (.tuple #[])) := by
  refine FnS.of (args := []) Try.func25 rfl rfl ?_
  refine C.skip ?_
  -- end 
  exact ⟨rfl, _, Res.of (rs := []) rfl rfl, rfl, rfl⟩
theorem again_walk (W0 : World) (a0 : Option Addr) (c0 : Nat) (zs : List Int) (h1 : zs.length ≤ c0) (hz : zs.length ≤ 9223372036854775807)
    (r0 : ∀ L, Rd W0 L a0 (zs.map (Value.int .i64))) :
    FnS Try.prog W0 8 #[.slice a0 zs.length c0] [] (fun e _ => e = .returned (.bool true)) := by
  refine FnS.of (args := [.slice a0 zs.length c0]) Try.func8 rfl rfl ?_
  refine C.seq ?_
  refine C.region ?_
  refine G.assignB rfl trivial rfl rfl rfl ?_
  refine G.nil ?_
  refine C.seq ?_
  refine C.region ?_
  refine G.call E10 rfl rfl trivial rfl rfl (begun_spec W0 _) rfl ?_
  rintro e L2 ⟨rfl, rfl⟩
  refine G.assignB rfl trivial rfl rfl rfl ?_
  refine G.nil ?_
  refine C.seq ?_
  refine C.seq ?_
  refine C.region ?_
  refine G.moveB rfl trivial rfl rfl rfl ?_
  first | refine G.notD rfl trivial rfl rfl rfl ?_ | refine G.not rfl trivial rfl rfl rfl ?_
  refine G.nil ?_
  refine C.condF rfl ?_
  refine C.skip ?_
  refine C.seq ?_
  refine C.seq ?_
  refine C.region ?_
  refine G.assignI rfl trivial rfl rfl rfl ?_
  refine G.nil ?_
  refine C.block ?_
  refine C.loop (fun m F D' L' => ∃ i : Nat, i ≤ zs.length ∧ m = zs.length - i ∧ F 4 = .int .i64 i ∧ F 0 = .slice a0 zs.length c0 ∧ D' = [] ∧ [] = L') ⟨_, ⟨0, by omega, rfl, rfl, rfl, rfl, rfl⟩⟩ ?_
  rintro m F D' L' ⟨i, hi, rfl, h4, h0', rfl, rfl⟩
  refine C.fix (d := 4) h4 ?_
  refine C.fix (d := 0) h0' ?_
  refine C.seq ?_
  refine C.seq ?_
  refine C.region ?_
  refine G.moveI rfl trivial rfl rfl rfl ?_
  refine G.moveS rfl trivial rfl rfl rfl ?_
  refine G.lenSlice rfl trivial rfl rfl Try.underlying41 rfl ?_
  refine G.bin rfl trivial rfl rfl rfl rfl rfl ?_
  refine G.moveB rfl trivial rfl rfl rfl ?_
  refine G.fork (t := 13) _ rfl ?_ ?_
  · intro hg13
    refine G.moveI rfl ⟨_, rfl, rfl, rfl⟩ rfl rfl rfl ?_
    refine G.bin rfl ⟨_, rfl, rfl, rfl⟩ rfl rfl rfl rfl rfl ?_
    first | refine G.pickT rfl trivial rfl rfl rfl rfl ?_ | refine G.pickF rfl trivial rfl rfl rfl rfl ?_
    refine G.nil ?_
    refine C.cond _ rfl ?_ ?_
    · intro hc1
      have hlt : i < zs.length := by omega
      obtain ⟨b1, o1, rfl, d1⟩ := (r0 []).some_ (by simp; omega)
      have h7 := and7_le zs[i]
      have eb : brk (1 + and7 zs[i]) = 1 + and7 zs[i] := by unfold brk; rw [if_neg (by omega)]
      refine C.skip ?_
      refine C.seq ?_
      refine C.block ?_
      refine C.seq ?_
      refine C.region ?_
      refine G.moveS rfl trivial rfl rfl rfl ?_
      refine G.moveI rfl trivial rfl rfl rfl ?_
      refine G.indexAddr rfl trivial rfl rfl Try.underlying41 I3 rfl rfl (by omega) ?_
      refine G.load (v := .int .i64 zs[i]) rfl trivial rfl rfl Try.underlying3 rfl rfl (fun w hm => by have h3 := d1 w hm i (by simpa using hlt); rw [List.getElem?_map, List.getElem?_eq_getElem hlt] at h3; simpa using h3) ?_
      refine G.bin rfl trivial rfl rfl rfl rfl rfl ?_
      refine G.fix (d := 23) (v := .int .i64 (and7 zs[i])) rfl ?_
      refine G.add rfl trivial rfl rfl rfl rfl (by omega) ?_
      refine G.allocC (cs := [(.int .i64 0)]) rfl trivial rfl rfl I23 rfl ?_
      intro b5
      refine G.store (v := .int _ _) (by first | exact .here | exact .next .here | exact .next (.next .here) | exact .next (.next (.next .here)) | exact .next (.next (.next (.next .here))) | exact .next (.next (.next (.next (.next .here)))) | exact .next (.next (.next (.next (.next (.next .here))))) | exact .next (.next (.next (.next (.next (.next (.next .here)))))) | exact .in1 | exact .next .in1 | exact .next (.next .in1) | exact .next (.next (.next .in1)) | exact .next (.next (.next (.next .in1))) | exact .in2 | exact .next .in2 | exact .next (.next .in2) | exact .next (.next (.next .in2)) | exact .next (.next (.next (.next .in2))) | exact .app .here | exact .app (.next .here) | exact .app (.next (.next .here)) | exact .app (.next (.next (.next .here))) | exact .next (.app .here) | exact .next (.next (.app .here)) | exact .next (.next (.next (.app .here))) | exact .next (.next (.next (.next (.app .here))))) rfl trivial rfl I23 rfl rfl rfl (by first | decide | (simp; done) | (simp; omega)) _ (by first | (simp only [List.set_cons_succ, List.set_cons_zero]; done) | (simp only [List.set_cons_succ, List.set_cons_zero]; exact rfl) | exact rfl) ?_
      refine G.nil ?_
      refine C.seq ?_
      refine C.drawn mixed (_) [] (fun _ h => h) ?_
      refine GA.pure (i := 0) (fun _ _ _ _ _ h => h) rfl (by kernel_rfl) trivial rfl rfl (Y.makeFuncL (l2 := [.pointer (some ⟨b5, 0, none⟩)]) rfl rfl rfl) (#[true, false, false, false, false, false, false, false]) (by kernel_rfl) ?_
      refine GA.read (i := 2) (fun _ _ _ _ _ h => h) rfl (by kernel_rfl) (by kernel_rfl) trivial rfl rfl (Y.loadAt (by first | exact .here | exact .next .here | exact .next (.next .here) | exact .next (.next (.next .here)) | exact .next (.next (.next (.next .here))) | exact .next (.next (.next (.next (.next .here)))) | exact .next (.next (.next (.next (.next (.next .here))))) | exact .next (.next (.next (.next (.next (.next (.next .here)))))) | exact .in1 | exact .next .in1 | exact .next (.next .in1) | exact .next (.next (.next .in1)) | exact .next (.next (.next (.next .in1))) | exact .in2 | exact .next .in2 | exact .next (.next .in2) | exact .next (.next (.next .in2)) | exact .next (.next (.next (.next .in2))) | exact .app .here | exact .app (.next .here) | exact .app (.next (.next .here)) | exact .app (.next (.next (.next .here))) | exact .next (.app .here) | exact .next (.next (.app .here)) | exact .next (.next (.next (.app .here))) | exact .next (.next (.next (.next (.app .here))))) rfl Try.underlying23 rfl rfl (by rfl)) (#[true, false, true, false, false, false, false, false]) (by kernel_rfl) ?_
      refine GA.one (i := 1) rfl (by kernel_rfl) (#[true, true, true, false, false, false, false, false]) (by kernel_rfl) ?_
      refine G.call E18 rfl rfl trivial rfl rfl (try_fault W0 _ _ 24 [] [.pointer (some ⟨b5, 0, none⟩)] _ (brk (1 + and7 zs[i])) E24 rfl (fun _ => again1_spec W0 _ (1 + and7 zs[i]) b5 (.next .here))) rfl ?_
      rintro e L2 ⟨rfl, rfl⟩
      refine G.nil ?_
      refine ⟨fun _ _ h => h, ?_⟩
      refine GA.pure (i := 3) (fun _ _ _ _ _ h => h) rfl (by kernel_rfl) trivial rfl rfl (Y.bin rfl rfl rfl rfl) (#[true, true, true, true, false, false, false, false]) (by kernel_rfl) ?_
      refine GA.no (t := 28) rfl (by rw [eb]; simp) ?_
      refine GA.pure (i := 4) (fun _ _ _ _ _ h => h) rfl (by kernel_rfl) trivial rfl rfl (Y.moveB rfl rfl) (#[true, true, true, true, true, false, false, false]) (by kernel_rfl) ?_
      refine GA.one (i := 5) rfl (by kernel_rfl) (#[true, true, true, true, true, true, false, false]) (by kernel_rfl) ?_
      refine G.call E18 rfl rfl ⟨_, rfl, rfl, rfl⟩ rfl rfl (try_ok W0 _ _ 25 [] [] [] _ E25 rfl (fun _ => again2_spec W0 _)) rfl ?_
      rintro e L2 ⟨rfl, rfl⟩
      refine G.nil ?_
      refine ⟨fun _ _ h => h, ?_⟩
      refine GA.pure (i := 6) (fun _ _ _ _ _ h => h) rfl (by kernel_rfl) ⟨_, rfl, rfl, rfl⟩ rfl rfl (Y.bin rfl rfl rfl rfl) (#[true, true, true, true, true, true, true, false]) (by kernel_rfl) ?_
      refine GA.no (t := 31) rfl (by simp) ?_
      first | refine GA.pure (i := 7) (fun _ _ _ _ _ h => h) rfl (by kernel_rfl) trivial rfl rfl (Y.pickT rfl rfl rfl) (#[true, true, true, true, true, true, true, true]) (by kernel_rfl) ?_ | refine GA.pure (i := 7) (fun _ _ _ _ _ h => h) rfl (by kernel_rfl) trivial rfl rfl (Y.pickF rfl rfl rfl) (#[true, true, true, true, true, true, true, true]) (by kernel_rfl) ?_
      refine GA.done (by kernel_rfl) ?_
      refine C.condF rfl ?_
      refine C.skip ?_
      refine C.region ?_
      refine G.moveI rfl trivial rfl rfl rfl ?_
      refine G.add rfl trivial rfl rfl rfl rfl (by omega) ?_
      refine G.assignI rfl trivial rfl rfl rfl ?_
      refine G.less (fun _ h => h.tail) ?_
      refine G.nil ?_
      exact ⟨zs.length - (i + 1), by omega, i + 1, by omega, rfl, rfl, rfl, rfl, rfl⟩
    · intro hc1
      refine C.exit ?_
      refine C.seq ?_
      refine C.region ?_
      refine G.assignB rfl trivial rfl rfl rfl ?_
      refine G.nil ?_
      refine C.ret ?_
      -- end g13Tc1F
      exact ⟨rfl, _, Res.of (rs := [.tmp 2]) rfl rfl, rfl⟩
  · intro hg13
    refine G.skip rfl rfl rfl rfl rfl rfl ?_
    refine G.skip rfl rfl rfl rfl rfl rfl ?_
    first | refine G.pickT rfl trivial rfl rfl rfl rfl ?_ | refine G.pickF rfl trivial rfl rfl rfl rfl ?_
    refine G.nil ?_
    refine C.condF rfl ?_
    refine C.exit ?_
    refine C.seq ?_
    refine C.region ?_
    refine G.assignB rfl trivial rfl rfl rfl ?_
    refine G.nil ?_
    refine C.ret ?_
    -- end g13F
    exact ⟨rfl, _, Res.of (rs := [.tmp 2]) rfl rfl, rfl⟩
end Go.Proofs.Ytiacjhloldmkjaa
