/-
  guard.Try walked, over a relation.
-/
import Derived.Test.YtokggoikffcijaaGreatDoorK1
import Derived.Test.YtokggoikffcijaaGreatDoorTy
namespace Go.Proofs.YtokggoikffcijaaGreatDoor
open Go Go.SL Go.RowKit

def brk (n : Int) : Int := if n = 0 then 8 else n
def faultV (n : Int) : Value := .iface 343 (.agg #[.int .i64 n])
def fault (n : Int) : List PanicEntry := [{ v := faultV n, recovered := false }]
theorem break_spec (W0 : World) (L : List Seg) (n : Int) : FnS Tryz.prog W0 310 #[.int .i64 n] L (fun e L' => L' = L ∧ e = .panicked (fault (brk n))) := by
  refine FnS.of (args := [.int .i64 n]) Tryz.func310 rfl rfl ?_
  refine C.seq ?_
  refine C.seq ?_
  refine C.region ?_
  refine G.moveI rfl trivial rfl rfl rfl ?_
  refine G.bin rfl trivial rfl rfl rfl rfl rfl ?_
  refine G.nil ?_
  refine C.cond _ rfl ?_ ?_
  · intro hc0
    refine C.region ?_
    refine G.assignI rfl trivial rfl rfl rfl ?_
    refine G.nil ?_
    refine C.region ?_
    refine G.moveI rfl trivial rfl rfl rfl ?_
    refine G.buildL (cs := [.int .i64 8]) rfl trivial rfl rfl Tryz.underlying343 I343 B343 rfl rfl ?_
    refine G.makeInterface rfl trivial rfl rfl Tryz.underlying343 rfl ?_
    refine G.panic rfl trivial rfl ?_
    exact ⟨rfl, rfl, by simp only [fault, faultV, brk, hc0, if_true, if_false]; rfl⟩
  · intro hc0
    refine C.skip ?_
    refine C.region ?_
    refine G.moveI rfl trivial rfl rfl rfl ?_
    refine G.buildL (cs := [.int .i64 n]) rfl trivial rfl rfl Tryz.underlying343 I343 B343 rfl rfl ?_
    refine G.makeInterface rfl trivial rfl rfl Tryz.underlying343 rfl ?_
    refine G.panic rfl trivial rfl ?_
    exact ⟨rfl, rfl, by simp only [fault, faultV, brk, hc0, if_true, if_false]; rfl⟩
theorem check_spec (W0 : World) (L : List Seg) (n : Int) : FnS Tryz.prog W0 244 #[.bool true, .int .i64 n] L (fun e L' => L' = L ∧ e = .returned (.tuple #[])) := by
  refine FnS.of (args := [.bool true, .int .i64 n]) Tryz.func244 rfl rfl ?_
  refine C.seq ?_
  refine C.region ?_
  refine G.moveB rfl trivial rfl rfl rfl ?_
  first | refine G.notD rfl trivial rfl rfl rfl ?_ | refine G.not rfl trivial rfl rfl rfl ?_
  refine G.nil ?_
  refine C.condF rfl ?_
  refine C.skip ?_
  -- end 
  exact ⟨rfl, _, Res.of (rs := []) rfl rfl, rfl, rfl⟩
theorem check_breaks (W0 : World) (L : List Seg) (n : Int) : FnS Tryz.prog W0 244 #[.bool false, .int .i64 n] L (fun e L' => L' = L ∧ e = .panicked (fault (brk n))) := by
  refine FnS.of (args := [.bool false, .int .i64 n]) Tryz.func244 rfl rfl ?_
  refine C.seq ?_
  refine C.region ?_
  refine G.moveB rfl trivial rfl rfl rfl ?_
  first | refine G.notD rfl trivial rfl rfl rfl ?_ | refine G.not rfl trivial rfl rfl rfl ?_
  refine G.nil ?_
  refine C.condT rfl ?_
  refine C.region ?_
  refine G.moveI rfl trivial rfl rfl rfl ?_
  refine G.call E310 rfl rfl trivial rfl rfl (break_spec W0 _ n) rfl ?_
  rintro e L2 ⟨rfl, rfl⟩
  exact ⟨rfl, rfl, rfl⟩
/-- the deferred function of a try: nothing to catch; a fault; something else -/
theorem tryD_none (W0 : World) (L : List Seg) (a : Value) : DfS Tryz.prog W0 277 #[a] .returning L (fun e u' L' => L' = L ∧ u' = .returning ∧ e = .returned (.tuple #[])) := by
  refine DfS.ofS (args := [a]) Tryz.func277 rfl rfl ?_
  refine CS.seq ?_
  refine CS.region ?_
  refine GS.none rfl rfl rfl rfl ?_
  refine GS.ofG (fun _ _ _ h => h) ?_
  refine G.nil ?_
  refine CS.ofC ?_
  refine C.block ?_
  refine C.seq ?_
  refine C.region ?_
  refine G.ifNil rfl trivial rfl rfl Tryz.underlying20 rfl ?_
  refine G.nil ?_
  refine C.condT rfl ?_
  refine C.region ?_
  refine G.assign .nilIface rfl trivial rfl rfl rfl ?_
  refine G.nil ?_
  -- end 
  exact ⟨rfl, _, Res.of (rs := []) rfl rfl, rfl, rfl, rfl⟩
theorem tryD_fault (W0 : World) (L : List Seg) (n x : Int) (b : Nat) : DfS Tryz.prog W0 277 #[.pointer (some ⟨b, 0, none⟩)] (.panicking (fault n)) ([(b, .row [.int .i64 x] 69 1)] :: L) (fun e u' L' => L' = [(b, .row [.int .i64 n] 69 1)] :: L ∧ u' = .panicking [{ v := faultV n, recovered := true }] ∧ e = .returned (.tuple #[])) := by
  refine DfS.ofS (args := [.pointer (some ⟨b, 0, none⟩)]) Tryz.func277 rfl rfl ?_
  refine CS.seq ?_
  refine CS.region ?_
  refine GS.catches rfl rfl rfl rfl ?_
  refine GS.ofG (fun _ _ _ h => h) ?_
  refine G.nil ?_
  refine CS.ofC ?_
  refine C.block ?_
  refine C.seq ?_
  refine C.region ?_
  refine G.ifEq rfl trivial rfl rfl Tryz.underlying20 rfl rfl ?_
  refine G.nil ?_
  refine C.condF rfl ?_
  refine C.seq ?_
  refine C.region ?_
  first | refine G.isType rfl trivial rfl rfl Tryz.underlying343 rfl rfl ?_ | refine G.notType rfl trivial rfl rfl Tryz.underlying343 rfl I343 rfl (by decide) ?_ | refine G.noType rfl trivial rfl rfl Tryz.underlying343 rfl I343 rfl ?_
  refine G.extractL rfl trivial rfl rfl rfl rfl ?_
  refine G.extractL rfl trivial rfl rfl rfl rfl ?_
  refine G.nil ?_
  refine C.condT rfl ?_
  refine C.seq ?_
  refine C.region ?_
  refine G.allocC (cs := [(.int .i64 0)]) rfl trivial rfl rfl I343 rfl ?_
  intro b2
  refine G.storeS (by first | exact .here | exact .next .here | exact .next (.next .here) | exact .next (.next (.next .here)) | exact .next (.next (.next (.next .here))) | exact .next (.next (.next (.next (.next .here)))) | exact .next (.next (.next (.next (.next (.next .here))))) | exact .next (.next (.next (.next (.next (.next (.next .here)))))) | exact .in1 | exact .next .in1 | exact .next (.next .in1) | exact .next (.next (.next .in1)) | exact .next (.next (.next (.next .in1))) | exact .in2 | exact .next .in2 | exact .next (.next .in2) | exact .next (.next (.next .in2)) | exact .next (.next (.next (.next .in2))) | exact .app .here | exact .app (.next .here) | exact .app (.next (.next .here)) | exact .app (.next (.next (.next .here))) | exact .app (.next (.next (.next (.next .here)))) | exact .app (.next (.next (.next (.next (.next .here))))) | exact .app (.next (.next (.next (.next (.next (.next .here)))))) | exact .app (.next (.next (.next (.next (.next (.next (.next .here))))))) | exact .app .in1 | exact .app .in2 | exact .app (.next .in1) | exact .next (.app .in1) | exact .next (.next (.app .in1)) | exact .next (.app .here) | exact .next (.next (.app .here)) | exact .next (.next (.next (.app .here))) | exact .next (.next (.next (.next (.app .here))))) rfl trivial rfl I343 rfl rfl rfl (by simp [cellsOk]) (by first | decide | simp) _ rfl ?_
  refine G.nil ?_
  refine C.region ?_
  refine G.fieldAddr rfl trivial rfl rfl Tryz.underlying343 rfl I69 rfl rfl ?_
  refine G.loadAt (by first | exact .here | exact .next .here | exact .next (.next .here) | exact .next (.next (.next .here)) | exact .next (.next (.next (.next .here))) | exact .next (.next (.next (.next (.next .here)))) | exact .next (.next (.next (.next (.next (.next .here))))) | exact .next (.next (.next (.next (.next (.next (.next .here)))))) | exact .in1 | exact .next .in1 | exact .next (.next .in1) | exact .next (.next (.next .in1)) | exact .next (.next (.next (.next .in1))) | exact .in2 | exact .next .in2 | exact .next (.next .in2) | exact .next (.next (.next .in2)) | exact .next (.next (.next (.next .in2))) | exact .app .here | exact .app (.next .here) | exact .app (.next (.next .here)) | exact .app (.next (.next (.next .here))) | exact .app (.next (.next (.next (.next .here)))) | exact .app (.next (.next (.next (.next (.next .here))))) | exact .app (.next (.next (.next (.next (.next (.next .here)))))) | exact .app (.next (.next (.next (.next (.next (.next (.next .here))))))) | exact .app .in1 | exact .app .in2 | exact .app (.next .in1) | exact .next (.app .in1) | exact .next (.next (.app .in1)) | exact .next (.app .here) | exact .next (.next (.app .here)) | exact .next (.next (.next (.app .here))) | exact .next (.next (.next (.next (.app .here))))) rfl trivial rfl rfl Tryz.underlying69 rfl rfl (by rfl) ?_
  refine G.store (v := .int _ _) (by first | exact .here | exact .next .here | exact .next (.next .here) | exact .next (.next (.next .here)) | exact .next (.next (.next (.next .here))) | exact .next (.next (.next (.next (.next .here)))) | exact .next (.next (.next (.next (.next (.next .here))))) | exact .next (.next (.next (.next (.next (.next (.next .here)))))) | exact .in1 | exact .next .in1 | exact .next (.next .in1) | exact .next (.next (.next .in1)) | exact .next (.next (.next (.next .in1))) | exact .in2 | exact .next .in2 | exact .next (.next .in2) | exact .next (.next (.next .in2)) | exact .next (.next (.next (.next .in2))) | exact .app .here | exact .app (.next .here) | exact .app (.next (.next .here)) | exact .app (.next (.next (.next .here))) | exact .app (.next (.next (.next (.next .here)))) | exact .app (.next (.next (.next (.next (.next .here))))) | exact .app (.next (.next (.next (.next (.next (.next .here)))))) | exact .app (.next (.next (.next (.next (.next (.next (.next .here))))))) | exact .app .in1 | exact .app .in2 | exact .app (.next .in1) | exact .next (.app .in1) | exact .next (.next (.app .in1)) | exact .next (.app .here) | exact .next (.next (.app .here)) | exact .next (.next (.next (.app .here))) | exact .next (.next (.next (.next (.app .here))))) rfl trivial rfl I69 rfl rfl rfl (by first | decide | (simp; done) | (simp; omega)) _ (by first | (simp only [List.set_cons_succ, List.set_cons_zero]; done) | (simp only [List.set_cons_succ, List.set_cons_zero]; exact rfl) | exact rfl) ?_
  refine G.less (fun _ h => h.tail) ?_
  refine G.nil ?_
  -- end 
  exact ⟨rfl, _, Res.of (rs := []) rfl rfl, rfl, rfl, rfl⟩
theorem tryD_other (W0 : World) (L : List Seg) (t : TypeId) (v : Value) (a : Value) (older : List PanicEntry) (h : t ≠ 343) : DfS Tryz.prog W0 277 #[a] (.panicking ({ v := .iface t v, recovered := false } :: older)) L (fun e u' L' => L' = L ∧ u' = .panicking ({ v := .iface t v, recovered := true } :: older) ∧ e = .panicked [{ v := .iface t v, recovered := false }]) := by
  refine DfS.ofS (args := [a]) Tryz.func277 rfl rfl ?_
  refine CS.seq ?_
  refine CS.region ?_
  refine GS.catches rfl rfl rfl rfl ?_
  refine GS.ofG (fun _ _ _ h => h) ?_
  refine G.nil ?_
  refine CS.ofC ?_
  refine C.block ?_
  refine C.seq ?_
  refine C.region ?_
  refine G.ifEq rfl trivial rfl rfl Tryz.underlying20 rfl rfl ?_
  refine G.nil ?_
  refine C.condF rfl ?_
  refine C.seq ?_
  refine C.region ?_
  refine G.notType rfl trivial rfl rfl Tryz.underlying343 rfl I343 rfl h ?_
  refine G.extractL rfl trivial rfl rfl rfl rfl ?_
  refine G.extractL rfl trivial rfl rfl rfl rfl ?_
  refine G.nil ?_
  refine C.condF rfl ?_
  refine C.seq ?_
  refine C.region ?_
  first | refine G.assignW rfl trivial rfl rfl rfl ?_ | refine G.assign .nilIface rfl trivial rfl rfl rfl ?_
  refine G.nil ?_
  refine C.region ?_
  first | refine G.moveW rfl trivial rfl rfl rfl ?_ | refine G.move .nilIface rfl trivial rfl rfl rfl ?_
  refine G.panic rfl trivial rfl ?_
  exact ⟨rfl, rfl, rfl, rfl⟩
/-- what is tried goes through -/
theorem tryR_ok (W0 : World) (L : List Seg) (g : FuncId) (l1 l2 args : List Value) (R : Value → List Seg → Prop) (he : Enters Tryz.prog g) (hargs : l1 ++ [] ++ l2 = args)
    (h : ∀ b, FnS Tryz.prog W0 g args.toArray ([(b, .row [.int .i64 0] 69 1)] :: L) (fun e L' => ∃ L1 v, L' = [(b, .row [.int .i64 0] 69 1)] :: L1 ∧ e = .returned v ∧ R v L1)) :
    FnS Tryz.prog W0 191 #[.func (.func g) l1.toArray l2.toArray] L (fun e L' => e = .returned (.int .i64 0) ∧ ∃ v, R v L') := by
  refine FnS.ofD (args := [.func (.func g) l1.toArray l2.toArray]) Tryz.func191 rfl rfl ?_
  refine C.seq ?_
  refine C.region ?_
  refine G.allocC (cs := [(.int .i64 0)]) rfl trivial rfl rfl I69 rfl ?_
  intro b2
  refine G.nil ?_
  refine C.seq ?_
  refine C.seq ?_
  refine C.region ?_
  refine G.moveF rfl trivial rfl rfl rfl ?_
  refine G.fnEq rfl trivial rfl rfl Tryz.underlying1 rfl rfl ?_
  refine G.nil ?_
  refine C.condF rfl ?_
  refine C.skip ?_
  refine C.seq ?_
  refine C.region ?_
  refine G.makeFuncL (l2 := [.pointer (some ⟨b2, 0, none⟩)]) rfl trivial rfl rfl rfl rfl ?_
  refine G.deferF rfl trivial rfl rfl rfl rfl ?_
  refine G.nil ?_
  refine C.seq ?_
  refine C.region ?_
  refine G.moveF rfl trivial rfl rfl rfl ?_
  refine G.callV he rfl rfl rfl trivial rfl rfl (h _) hargs ?_
  rintro e L2 ⟨L1, v, rfl, rfl, hR⟩
  refine G.nil ?_
  refine C.seq ?_
  refine C.region ?_
  refine G.store (v := .int _ _) (by first | exact .here | exact .next .here | exact .next (.next .here) | exact .next (.next (.next .here)) | exact .next (.next (.next (.next .here))) | exact .next (.next (.next (.next (.next .here)))) | exact .next (.next (.next (.next (.next (.next .here))))) | exact .next (.next (.next (.next (.next (.next (.next .here)))))) | exact .in1 | exact .next .in1 | exact .next (.next .in1) | exact .next (.next (.next .in1)) | exact .next (.next (.next (.next .in1))) | exact .in2 | exact .next .in2 | exact .next (.next .in2) | exact .next (.next (.next .in2)) | exact .next (.next (.next (.next .in2))) | exact .app .here | exact .app (.next .here) | exact .app (.next (.next .here)) | exact .app (.next (.next (.next .here))) | exact .app (.next (.next (.next (.next .here)))) | exact .app (.next (.next (.next (.next (.next .here))))) | exact .app (.next (.next (.next (.next (.next (.next .here)))))) | exact .app (.next (.next (.next (.next (.next (.next (.next .here))))))) | exact .app .in1 | exact .app .in2 | exact .app (.next .in1) | exact .next (.app .in1) | exact .next (.next (.app .in1)) | exact .next (.app .here) | exact .next (.next (.app .here)) | exact .next (.next (.next (.app .here))) | exact .next (.next (.next (.next (.app .here))))) rfl trivial rfl I69 rfl rfl rfl (by first | decide | (simp; done) | (simp; omega)) _ (by first | (simp only [List.set_cons_succ, List.set_cons_zero]; done) | (simp only [List.set_cons_succ, List.set_cons_zero]; exact rfl) | exact rfl) ?_
  refine G.nil ?_
  refine C.ret ?_
  -- end 
  refine Lv.cons (by simp) E277 (tryD_none W0 _ _) rfl ?_
  rintro e u2 L2 ⟨rfl, rfl, rfl⟩
  exact Lv.retL (Res.one (v := .int .i64 0) rfl (RV.cell At.here rfl Tryz.underlying69 rfl rfl)) (fun _ h => h.tail) ⟨rfl, v, hR⟩
/-- what is tried breaks -/
theorem tryR_fault (W0 : World) (L : List Seg) (g : FuncId) (l1 l2 args : List Value) (n : Int) (R : List Seg → Prop) (he : Enters Tryz.prog g) (hargs : l1 ++ [] ++ l2 = args)
    (h : ∀ b, FnS Tryz.prog W0 g args.toArray ([(b, .row [.int .i64 0] 69 1)] :: L) (fun e L' => ∃ L1, L' = [(b, .row [.int .i64 0] 69 1)] :: L1 ∧ e = .panicked (fault n) ∧ R L1)) :
    FnS Tryz.prog W0 191 #[.func (.func g) l1.toArray l2.toArray] L (fun e L' => e = .returned (.int .i64 n) ∧ R L') := by
  refine FnS.ofD (args := [.func (.func g) l1.toArray l2.toArray]) Tryz.func191 rfl rfl ?_
  refine C.seq ?_
  refine C.region ?_
  refine G.allocC (cs := [(.int .i64 0)]) rfl trivial rfl rfl I69 rfl ?_
  intro b2
  refine G.nil ?_
  refine C.seq ?_
  refine C.seq ?_
  refine C.region ?_
  refine G.moveF rfl trivial rfl rfl rfl ?_
  refine G.fnEq rfl trivial rfl rfl Tryz.underlying1 rfl rfl ?_
  refine G.nil ?_
  refine C.condF rfl ?_
  refine C.skip ?_
  refine C.seq ?_
  refine C.region ?_
  refine G.makeFuncL (l2 := [.pointer (some ⟨b2, 0, none⟩)]) rfl trivial rfl rfl rfl rfl ?_
  refine G.deferF rfl trivial rfl rfl rfl rfl ?_
  refine G.nil ?_
  refine C.seq ?_
  refine C.region ?_
  refine G.moveF rfl trivial rfl rfl rfl ?_
  refine G.callV he rfl rfl rfl trivial rfl rfl (h _) hargs ?_
  rintro e L2 ⟨L1, rfl, rfl, hR⟩
  refine Lv.cons (by simp) E277 (tryD_fault W0 _ n 0 _) rfl ?_
  rintro e u2 L2 ⟨rfl, rfl, rfl⟩
  exact Lv.retL (Res.one rfl (RV.cell At.here rfl Tryz.underlying69 rfl rfl)) (fun _ h => h.tail) ⟨rfl, hR⟩
end Go.Proofs.YtokggoikffcijaaGreatDoor
