/-
  guard walked: what breaks, what tries.
-/
import Derived.Test.YtgfdghhojnmaoaaSL7
import Derived.Test.YtgfdghhojnmaoaaSLY
import Derived.Test.YtgfdghhojnmaoaaTy
namespace Go.Proofs.Ytgfdghhojnmaoaa
open Go Go.SL Go.RowKit

def brk (n : Int) : Int := if n = 0 then 8 else n
def faultV (n : Int) : Value := .iface 67 (.agg #[.int .i64 n])
def fault (n : Int) : List PanicEntry := [{ v := faultV n, recovered := false }]
theorem break_spec (W0 : World) (L : List Seg) (n : Int) : FnS Try.prog W0 34 #[.int .i64 n] L (fun e L' => L' = L ∧ e = .panicked (fault (brk n))) := by
  refine FnS.of (args := [.int .i64 n]) Try.func34 rfl rfl ?_
  refine C.seq ?_
  refine C.seq ?_
  refine C.region ?_
  refine G.moveI rfl trivial rfl rfl rfl ?_
  refine G.bin rfl trivial rfl rfl rfl rfl rfl ?_
  refine G.nil ?_
  refine C.cond _ rfl ?_ ?_
  · intro hc0
    refine C.region ?_
    refine G.assignI rfl trivial rfl rfl rfl ?_
    refine G.nil ?_
    refine C.region ?_
    refine G.moveI rfl trivial rfl rfl rfl ?_
    refine G.buildL (cs := [.int .i64 8]) rfl trivial rfl rfl Try.underlying67 I67 B67 rfl rfl ?_
    refine G.makeInterface rfl trivial rfl rfl Try.underlying67 rfl ?_
    refine G.panic rfl trivial rfl ?_
    exact ⟨rfl, rfl, by simp only [fault, faultV, brk, hc0, if_true, if_false]; rfl⟩
  · intro hc0
    refine C.skip ?_
    refine C.region ?_
    refine G.moveI rfl trivial rfl rfl rfl ?_
    refine G.buildL (cs := [.int .i64 n]) rfl trivial rfl rfl Try.underlying67 I67 B67 rfl rfl ?_
    refine G.makeInterface rfl trivial rfl rfl Try.underlying67 rfl ?_
    refine G.panic rfl trivial rfl ?_
    exact ⟨rfl, rfl, by simp only [fault, faultV, brk, hc0, if_true, if_false]; rfl⟩
theorem check_spec (W0 : World) (L : List Seg) (n : Int) : FnS Try.prog W0 28 #[.bool true, .int .i64 n] L (fun e L' => L' = L ∧ e = .returned (.tuple #[])) := by
  refine FnS.of (args := [.bool true, .int .i64 n]) Try.func28 rfl rfl ?_
  refine C.seq ?_
  refine C.region ?_
  refine G.moveB rfl trivial rfl rfl rfl ?_
  first | refine G.notD rfl trivial rfl rfl rfl ?_ | refine G.not rfl trivial rfl rfl rfl ?_
  refine G.nil ?_
  refine C.condF rfl ?_
  refine C.skip ?_
  -- end 
  exact ⟨rfl, _, Res.of (rs := []) rfl rfl, rfl, rfl⟩
theorem check_breaks (W0 : World) (L : List Seg) (n : Int) : FnS Try.prog W0 28 #[.bool false, .int .i64 n] L (fun e L' => L' = L ∧ e = .panicked (fault (brk n))) := by
  refine FnS.of (args := [.bool false, .int .i64 n]) Try.func28 rfl rfl ?_
  refine C.seq ?_
  refine C.region ?_
  refine G.moveB rfl trivial rfl rfl rfl ?_
  first | refine G.notD rfl trivial rfl rfl rfl ?_ | refine G.not rfl trivial rfl rfl rfl ?_
  refine G.nil ?_
  refine C.condT rfl ?_
  refine C.region ?_
  refine G.moveI rfl trivial rfl rfl rfl ?_
  refine G.call E34 rfl rfl trivial rfl rfl (break_spec W0 _ n) rfl ?_
  rintro e L2 ⟨rfl, rfl⟩
  exact ⟨rfl, rfl, rfl⟩
/-- the deferred function of a try: nothing to catch; a fault; something else -/
theorem tryD_none (W0 : World) (L : List Seg) (a : Value) : DfS Try.prog W0 29 #[a] .returning L (fun e u' L' => L' = L ∧ u' = .returning ∧ e = .returned (.tuple #[])) := by
  refine DfS.ofS (args := [a]) Try.func29 rfl rfl ?_
  refine CS.seq ?_
  refine CS.region ?_
  refine GS.none rfl rfl rfl rfl ?_
  refine GS.ofG (fun _ _ _ h => h) ?_
  refine G.nil ?_
  refine CS.ofC ?_
  refine C.block ?_
  refine C.seq ?_
  refine C.region ?_
  refine G.ifNil rfl trivial rfl rfl Try.underlying20 rfl ?_
  refine G.nil ?_
  refine C.condT rfl ?_
  refine C.region ?_
  refine G.assign .nilIface rfl trivial rfl rfl rfl ?_
  refine G.nil ?_
  -- end 
  exact ⟨rfl, _, Res.of (rs := []) rfl rfl, rfl, rfl, rfl⟩
theorem tryD_fault (W0 : World) (L : List Seg) (n x : Int) (b : Nat) : DfS Try.prog W0 29 #[.pointer (some ⟨b, 0, none⟩)] (.panicking (fault n)) ([(b, .row [.int .i64 x] 34 1)] :: L) (fun e u' L' => L' = [(b, .row [.int .i64 n] 34 1)] :: L ∧ u' = .panicking [{ v := faultV n, recovered := true }] ∧ e = .returned (.tuple #[])) := by
  refine DfS.ofS (args := [.pointer (some ⟨b, 0, none⟩)]) Try.func29 rfl rfl ?_
  refine CS.seq ?_
  refine CS.region ?_
  refine GS.catches rfl rfl rfl rfl ?_
  refine GS.ofG (fun _ _ _ h => h) ?_
  refine G.nil ?_
  refine CS.ofC ?_
  refine C.block ?_
  refine C.seq ?_
  refine C.region ?_
  refine G.ifEq rfl trivial rfl rfl Try.underlying20 rfl rfl ?_
  refine G.nil ?_
  refine C.condF rfl ?_
  refine C.seq ?_
  refine C.region ?_
  first | refine G.isType rfl trivial rfl rfl Try.underlying67 rfl rfl ?_ | refine G.notType rfl trivial rfl rfl Try.underlying67 rfl I67 rfl (by decide) ?_ | refine G.noType rfl trivial rfl rfl Try.underlying67 rfl I67 rfl ?_
  refine G.extractL rfl trivial rfl rfl rfl rfl ?_
  refine G.extractL rfl trivial rfl rfl rfl rfl ?_
  refine G.nil ?_
  refine C.condT rfl ?_
  refine C.seq ?_
  refine C.region ?_
  refine G.allocC (cs := [(.int .i64 0)]) rfl trivial rfl rfl I67 rfl ?_
  intro b2
  refine G.storeS (by first | exact .here | exact .next .here | exact .next (.next .here) | exact .next (.next (.next .here)) | exact .next (.next (.next (.next .here))) | exact .next (.next (.next (.next (.next .here)))) | exact .next (.next (.next (.next (.next (.next .here))))) | exact .next (.next (.next (.next (.next (.next (.next .here)))))) | exact .in1 | exact .next .in1 | exact .next (.next .in1) | exact .next (.next (.next .in1)) | exact .next (.next (.next (.next .in1))) | exact .in2 | exact .next .in2 | exact .next (.next .in2) | exact .next (.next (.next .in2)) | exact .next (.next (.next (.next .in2))) | exact .app .here | exact .app (.next .here) | exact .app (.next (.next .here)) | exact .app (.next (.next (.next .here))) | exact .app (.next (.next (.next (.next .here)))) | exact .app (.next (.next (.next (.next (.next .here))))) | exact .app (.next (.next (.next (.next (.next (.next .here)))))) | exact .app (.next (.next (.next (.next (.next (.next (.next .here))))))) | exact .app .in1 | exact .app .in2 | exact .app (.next .in1) | exact .next (.app .in1) | exact .next (.next (.app .in1)) | exact .next (.app .here) | exact .next (.next (.app .here)) | exact .next (.next (.next (.app .here))) | exact .next (.next (.next (.next (.app .here))))) rfl trivial rfl I67 rfl rfl rfl (by simp [cellsOk]) (by first | decide | simp) _ rfl ?_
  refine G.nil ?_
  refine C.region ?_
  refine G.fieldAddr rfl trivial rfl rfl Try.underlying67 rfl I34 rfl rfl ?_
  refine G.loadAt (by first | exact .here | exact .next .here | exact .next (.next .here) | exact .next (.next (.next .here)) | exact .next (.next (.next (.next .here))) | exact .next (.next (.next (.next (.next .here)))) | exact .next (.next (.next (.next (.next (.next .here))))) | exact .next (.next (.next (.next (.next (.next (.next .here)))))) | exact .in1 | exact .next .in1 | exact .next (.next .in1) | exact .next (.next (.next .in1)) | exact .next (.next (.next (.next .in1))) | exact .in2 | exact .next .in2 | exact .next (.next .in2) | exact .next (.next (.next .in2)) | exact .next (.next (.next (.next .in2))) | exact .app .here | exact .app (.next .here) | exact .app (.next (.next .here)) | exact .app (.next (.next (.next .here))) | exact .app (.next (.next (.next (.next .here)))) | exact .app (.next (.next (.next (.next (.next .here))))) | exact .app (.next (.next (.next (.next (.next (.next .here)))))) | exact .app (.next (.next (.next (.next (.next (.next (.next .here))))))) | exact .app .in1 | exact .app .in2 | exact .app (.next .in1) | exact .next (.app .in1) | exact .next (.next (.app .in1)) | exact .next (.app .here) | exact .next (.next (.app .here)) | exact .next (.next (.next (.app .here))) | exact .next (.next (.next (.next (.app .here))))) rfl trivial rfl rfl Try.underlying34 rfl rfl (by rfl) ?_
  refine G.store (v := .int _ _) (by first | exact .here | exact .next .here | exact .next (.next .here) | exact .next (.next (.next .here)) | exact .next (.next (.next (.next .here))) | exact .next (.next (.next (.next (.next .here)))) | exact .next (.next (.next (.next (.next (.next .here))))) | exact .next (.next (.next (.next (.next (.next (.next .here)))))) | exact .in1 | exact .next .in1 | exact .next (.next .in1) | exact .next (.next (.next .in1)) | exact .next (.next (.next (.next .in1))) | exact .in2 | exact .next .in2 | exact .next (.next .in2) | exact .next (.next (.next .in2)) | exact .next (.next (.next (.next .in2))) | exact .app .here | exact .app (.next .here) | exact .app (.next (.next .here)) | exact .app (.next (.next (.next .here))) | exact .app (.next (.next (.next (.next .here)))) | exact .app (.next (.next (.next (.next (.next .here))))) | exact .app (.next (.next (.next (.next (.next (.next .here)))))) | exact .app (.next (.next (.next (.next (.next (.next (.next .here))))))) | exact .app .in1 | exact .app .in2 | exact .app (.next .in1) | exact .next (.app .in1) | exact .next (.next (.app .in1)) | exact .next (.app .here) | exact .next (.next (.app .here)) | exact .next (.next (.next (.app .here))) | exact .next (.next (.next (.next (.app .here))))) rfl trivial rfl I34 rfl rfl rfl (by first | decide | (simp; done) | (simp; omega)) _ (by first | (simp only [List.set_cons_succ, List.set_cons_zero]; done) | (simp only [List.set_cons_succ, List.set_cons_zero]; exact rfl) | exact rfl) ?_
  refine G.less (fun _ h => h.tail) ?_
  refine G.nil ?_
  -- end 
  exact ⟨rfl, _, Res.of (rs := []) rfl rfl, rfl, rfl, rfl⟩
theorem tryD_other (W0 : World) (L : List Seg) (t : TypeId) (v : Value) (a : Value) (older : List PanicEntry) (h : t ≠ 67) : DfS Try.prog W0 29 #[a] (.panicking ({ v := .iface t v, recovered := false } :: older)) L (fun e u' L' => L' = L ∧ u' = .panicking ({ v := .iface t v, recovered := true } :: older) ∧ e = .panicked [{ v := .iface t v, recovered := false }]) := by
  refine DfS.ofS (args := [a]) Try.func29 rfl rfl ?_
  refine CS.seq ?_
  refine CS.region ?_
  refine GS.catches rfl rfl rfl rfl ?_
  refine GS.ofG (fun _ _ _ h => h) ?_
  refine G.nil ?_
  refine CS.ofC ?_
  refine C.block ?_
  refine C.seq ?_
  refine C.region ?_
  refine G.ifEq rfl trivial rfl rfl Try.underlying20 rfl rfl ?_
  refine G.nil ?_
  refine C.condF rfl ?_
  refine C.seq ?_
  refine C.region ?_
  refine G.notType rfl trivial rfl rfl Try.underlying67 rfl I67 rfl h ?_
  refine G.extractL rfl trivial rfl rfl rfl rfl ?_
  refine G.extractL rfl trivial rfl rfl rfl rfl ?_
  refine G.nil ?_
  refine C.condF rfl ?_
  refine C.seq ?_
  refine C.region ?_
  first | refine G.assignW rfl trivial rfl rfl rfl ?_ | refine G.assign .nilIface rfl trivial rfl rfl rfl ?_
  refine G.nil ?_
  refine C.region ?_
  first | refine G.moveW rfl trivial rfl rfl rfl ?_ | refine G.move .nilIface rfl trivial rfl rfl rfl ?_
  refine G.panic rfl trivial rfl ?_
  exact ⟨rfl, rfl, rfl, rfl⟩
/-- what is tried goes through -/
theorem try_ok (W0 : World) (L L1 : List Seg) (g : FuncId) (l1 l2 args : List Value) (v : Value) (he : Enters Try.prog g) (hargs : l1 ++ [] ++ l2 = args)
    (h : ∀ b, FnS Try.prog W0 g args.toArray ([(b, .row [.int .i64 0] 34 1)] :: L) (fun e L' => L' = [(b, .row [.int .i64 0] 34 1)] :: L1 ∧ e = .returned v)) :
    FnS Try.prog W0 21 #[.func (.func g) l1.toArray l2.toArray] L (fun e L' => L' = L1 ∧ e = .returned (.int .i64 0)) := by
  refine FnS.ofD (args := [.func (.func g) l1.toArray l2.toArray]) Try.func21 rfl rfl ?_
  refine C.seq ?_
  refine C.region ?_
  refine G.allocC (cs := [(.int .i64 0)]) rfl trivial rfl rfl I34 rfl ?_
  intro b2
  refine G.nil ?_
  refine C.seq ?_
  refine C.seq ?_
  refine C.region ?_
  refine G.moveF rfl trivial rfl rfl rfl ?_
  refine G.fnEq rfl trivial rfl rfl Try.underlying1 rfl rfl ?_
  refine G.nil ?_
  refine C.condF rfl ?_
  refine C.skip ?_
  refine C.seq ?_
  refine C.region ?_
  refine G.makeFuncL (l2 := [.pointer (some ⟨b2, 0, none⟩)]) rfl trivial rfl rfl rfl rfl ?_
  refine G.deferF rfl trivial rfl rfl rfl rfl ?_
  refine G.nil ?_
  refine C.seq ?_
  refine C.region ?_
  refine G.moveF rfl trivial rfl rfl rfl ?_
  refine G.callV he rfl rfl rfl trivial rfl rfl (h _) hargs ?_
  rintro e L2 ⟨rfl, rfl⟩
  refine G.nil ?_
  refine C.seq ?_
  refine C.region ?_
  refine G.store (v := .int _ _) (by first | exact .here | exact .next .here | exact .next (.next .here) | exact .next (.next (.next .here)) | exact .next (.next (.next (.next .here))) | exact .next (.next (.next (.next (.next .here)))) | exact .next (.next (.next (.next (.next (.next .here))))) | exact .next (.next (.next (.next (.next (.next (.next .here)))))) | exact .in1 | exact .next .in1 | exact .next (.next .in1) | exact .next (.next (.next .in1)) | exact .next (.next (.next (.next .in1))) | exact .in2 | exact .next .in2 | exact .next (.next .in2) | exact .next (.next (.next .in2)) | exact .next (.next (.next (.next .in2))) | exact .app .here | exact .app (.next .here) | exact .app (.next (.next .here)) | exact .app (.next (.next (.next .here))) | exact .app (.next (.next (.next (.next .here)))) | exact .app (.next (.next (.next (.next (.next .here))))) | exact .app (.next (.next (.next (.next (.next (.next .here)))))) | exact .app (.next (.next (.next (.next (.next (.next (.next .here))))))) | exact .app .in1 | exact .app .in2 | exact .app (.next .in1) | exact .next (.app .in1) | exact .next (.next (.app .in1)) | exact .next (.app .here) | exact .next (.next (.app .here)) | exact .next (.next (.next (.app .here))) | exact .next (.next (.next (.next (.app .here))))) rfl trivial rfl I34 rfl rfl rfl (by first | decide | (simp; done) | (simp; omega)) _ (by first | (simp only [List.set_cons_succ, List.set_cons_zero]; done) | (simp only [List.set_cons_succ, List.set_cons_zero]; exact rfl) | exact rfl) ?_
  refine G.nil ?_
  refine C.ret ?_
  -- end 
  refine Lv.cons (by simp) E29 (tryD_none W0 _ _) rfl ?_
  rintro e u2 L2 ⟨rfl, rfl, rfl⟩
  exact Lv.retL (Res.one (v := .int .i64 0) rfl (RV.cell At.here rfl Try.underlying34 rfl rfl)) (fun _ h => h.tail) ⟨rfl, rfl⟩
/-- what is tried breaks -/
theorem try_fault (W0 : World) (L L1 : List Seg) (g : FuncId) (l1 l2 args : List Value) (n : Int) (he : Enters Try.prog g) (hargs : l1 ++ [] ++ l2 = args)
    (h : ∀ b, FnS Try.prog W0 g args.toArray ([(b, .row [.int .i64 0] 34 1)] :: L) (fun e L' => L' = [(b, .row [.int .i64 0] 34 1)] :: L1 ∧ e = .panicked (fault n))) :
    FnS Try.prog W0 21 #[.func (.func g) l1.toArray l2.toArray] L (fun e L' => L' = L1 ∧ e = .returned (.int .i64 n)) := by
  refine FnS.ofD (args := [.func (.func g) l1.toArray l2.toArray]) Try.func21 rfl rfl ?_
  refine C.seq ?_
  refine C.region ?_
  refine G.allocC (cs := [(.int .i64 0)]) rfl trivial rfl rfl I34 rfl ?_
  intro b2
  refine G.nil ?_
  refine C.seq ?_
  refine C.seq ?_
  refine C.region ?_
  refine G.moveF rfl trivial rfl rfl rfl ?_
  refine G.fnEq rfl trivial rfl rfl Try.underlying1 rfl rfl ?_
  refine G.nil ?_
  refine C.condF rfl ?_
  refine C.skip ?_
  refine C.seq ?_
  refine C.region ?_
  refine G.makeFuncL (l2 := [.pointer (some ⟨b2, 0, none⟩)]) rfl trivial rfl rfl rfl rfl ?_
  refine G.deferF rfl trivial rfl rfl rfl rfl ?_
  refine G.nil ?_
  refine C.seq ?_
  refine C.region ?_
  refine G.moveF rfl trivial rfl rfl rfl ?_
  refine G.callV he rfl rfl rfl trivial rfl rfl (h _) hargs ?_
  rintro e L2 ⟨rfl, rfl⟩
  refine Lv.cons (by simp) E29 (tryD_fault W0 _ n 0 _) rfl ?_
  rintro e u2 L2 ⟨rfl, rfl, rfl⟩
  exact Lv.retL (Res.one rfl (RV.cell At.here rfl Try.underlying34 rfl rfl)) (fun _ h => h.tail) ⟨rfl, rfl⟩
/-- what is tried panics with something else -/
theorem try_other (W0 : World) (L L1 : List Seg) (g : FuncId) (l1 l2 args : List Value) (t : TypeId) (v : Value) (older : List PanicEntry) (ht : t ≠ 67) (he : Enters Try.prog g) (hargs : l1 ++ [] ++ l2 = args)
    (h : ∀ b, FnS Try.prog W0 g args.toArray ([(b, .row [.int .i64 0] 34 1)] :: L) (fun e L' => L' = [(b, .row [.int .i64 0] 34 1)] :: L1 ∧ e = .panicked ({ v := .iface t v, recovered := false } :: older))) :
    FnS Try.prog W0 21 #[.func (.func g) l1.toArray l2.toArray] L (fun e L' => L' = L1 ∧ e = .panicked ({ v := .iface t v, recovered := false } :: { v := .iface t v, recovered := true } :: older)) := by
  refine FnS.ofD (args := [.func (.func g) l1.toArray l2.toArray]) Try.func21 rfl rfl ?_
  refine C.seq ?_
  refine C.region ?_
  refine G.allocC (cs := [(.int .i64 0)]) rfl trivial rfl rfl I34 rfl ?_
  intro b2
  refine G.nil ?_
  refine C.seq ?_
  refine C.seq ?_
  refine C.region ?_
  refine G.moveF rfl trivial rfl rfl rfl ?_
  refine G.fnEq rfl trivial rfl rfl Try.underlying1 rfl rfl ?_
  refine G.nil ?_
  refine C.condF rfl ?_
  refine C.skip ?_
  refine C.seq ?_
  refine C.region ?_
  refine G.makeFuncL (l2 := [.pointer (some ⟨b2, 0, none⟩)]) rfl trivial rfl rfl rfl rfl ?_
  refine G.deferF rfl trivial rfl rfl rfl rfl ?_
  refine G.nil ?_
  refine C.seq ?_
  refine C.region ?_
  refine G.moveF rfl trivial rfl rfl rfl ?_
  refine G.callV he rfl rfl rfl trivial rfl rfl (h _) hargs ?_
  rintro e L2 ⟨rfl, rfl⟩
  refine Lv.cons (by simp) E29 (tryD_other W0 _ t v _ older ht) rfl ?_
  rintro e u2 L2 ⟨rfl, rfl, rfl⟩
  exact Lv.less (fun _ h => h.tail) (Lv.panic ⟨rfl, rfl⟩)
/-- nothing to try -/
theorem try_nil (W0 : World) (L : List Seg) : FnS Try.prog W0 21 #[.nilFunc] L (fun e L' => L' = L ∧ e = .returned (.int .i64 0)) := by
  refine FnS.ofD (args := [.nilFunc]) Try.func21 rfl rfl ?_
  refine C.seq ?_
  refine C.region ?_
  refine G.allocC (cs := [(.int .i64 0)]) rfl trivial rfl rfl I34 rfl ?_
  intro b2
  refine G.nil ?_
  refine C.seq ?_
  refine C.seq ?_
  refine C.region ?_
  refine G.move .nilFunc rfl trivial rfl rfl rfl ?_
  refine G.fnNil rfl trivial rfl rfl Try.underlying1 rfl rfl ?_
  refine G.nil ?_
  refine C.condT rfl ?_
  refine C.seq ?_
  refine C.region ?_
  refine G.store (v := .int _ _) (by first | exact .here | exact .next .here | exact .next (.next .here) | exact .next (.next (.next .here)) | exact .next (.next (.next (.next .here))) | exact .next (.next (.next (.next (.next .here)))) | exact .next (.next (.next (.next (.next (.next .here))))) | exact .next (.next (.next (.next (.next (.next (.next .here)))))) | exact .in1 | exact .next .in1 | exact .next (.next .in1) | exact .next (.next (.next .in1)) | exact .next (.next (.next (.next .in1))) | exact .in2 | exact .next .in2 | exact .next (.next .in2) | exact .next (.next (.next .in2)) | exact .next (.next (.next (.next .in2))) | exact .app .here | exact .app (.next .here) | exact .app (.next (.next .here)) | exact .app (.next (.next (.next .here))) | exact .app (.next (.next (.next (.next .here)))) | exact .app (.next (.next (.next (.next (.next .here))))) | exact .app (.next (.next (.next (.next (.next (.next .here)))))) | exact .app (.next (.next (.next (.next (.next (.next (.next .here))))))) | exact .app .in1 | exact .app .in2 | exact .app (.next .in1) | exact .next (.app .in1) | exact .next (.next (.app .in1)) | exact .next (.app .here) | exact .next (.next (.app .here)) | exact .next (.next (.next (.app .here))) | exact .next (.next (.next (.next (.app .here))))) rfl trivial rfl I34 rfl rfl rfl (by first | decide | (simp; done) | (simp; omega)) _ (by first | (simp only [List.set_cons_succ, List.set_cons_zero]; done) | (simp only [List.set_cons_succ, List.set_cons_zero]; exact rfl) | exact rfl) ?_
  refine G.nil ?_
  refine C.ret ?_
  -- end 
  exact Lv.retL (Res.one (v := .int .i64 0) rfl (RV.cell At.here rfl Try.underlying34 rfl rfl)) (fun _ h => h.tail) ⟨rfl, rfl⟩
end Go.Proofs.Ytgfdghhojnmaoaa
