/-
  The set's own 'tries' and 'broken', walked.
-/
import Derived.Test.YtiacjhloldmkjaaGd0
namespace Go.Proofs.Ytiacjhloldmkjaa
open Go Go.SL Go.RowKit

theorem triesD_back (W0 : World) (L : List Seg) (u : FrameMode) (b4 : Nat) (a : Value) : DfS Try.prog W0 30 #[.pointer (some ⟨b4, 0, none⟩), a] u ([(b4, .row [.bool true] 4 1)] :: L) (fun e u' L' => L' = [(b4, .row [.bool true] 4 1)] :: L ∧ u' = u ∧ e = .returned (.tuple #[])) := by
  refine DfS.ofS (args := [.pointer (some ⟨b4, 0, none⟩), a]) Try.func30 rfl rfl ?_
  refine CS.seq ?_
  refine CS.ofC ?_
  refine C.region ?_
  refine G.loadAt (by first | exact .here | exact .next .here | exact .next (.next .here) | exact .next (.next (.next .here)) | exact .next (.next (.next (.next .here))) | exact .next (.next (.next (.next (.next .here)))) | exact .next (.next (.next (.next (.next (.next .here))))) | exact .next (.next (.next (.next (.next (.next (.next .here)))))) | exact .in1 | exact .next .in1 | exact .next (.next .in1) | exact .next (.next (.next .in1)) | exact .next (.next (.next (.next .in1))) | exact .in2 | exact .next .in2 | exact .next (.next .in2) | exact .next (.next (.next .in2)) | exact .next (.next (.next (.next .in2))) | exact .app .here | exact .app (.next .here) | exact .app (.next (.next .here)) | exact .app (.next (.next (.next .here))) | exact .next (.app .here) | exact .next (.next (.app .here)) | exact .next (.next (.next (.app .here))) | exact .next (.next (.next (.next (.app .here))))) rfl trivial rfl rfl Try.underlying4 rfl rfl (by rfl) ?_
  first | refine G.notD rfl trivial rfl rfl rfl ?_ | refine G.not rfl trivial rfl rfl rfl ?_
  refine G.nil ?_
  refine CS.condF rfl ?_
  refine CS.ofC ?_
  refine C.skip ?_
  -- end 
  exact ⟨rfl, _, Res.of (rs := []) rfl rfl, rfl, rfl, rfl⟩
theorem triesD_other (W0 : World) (L : List Seg) (v x : Value) (older : List PanicEntry) (b4 b3 : Nat) (hv : cellsOk v = true) : DfS Try.prog W0 30 #[.pointer (some ⟨b4, 0, none⟩), .pointer (some ⟨b3, 0, none⟩)] (.panicking ({ v := v, recovered := false } :: older)) ([(b4, .row [.bool false] 4 1)] :: [(b3, .row [x] 20 1)] :: L)
    (fun e u' L' => L' = [(b4, .row [.bool false] 4 1)] :: [(b3, .row [v] 20 1)] :: L ∧ u' = .panicking ({ v := v, recovered := true } :: older) ∧ e = .returned (.tuple #[])) := by
  refine DfS.ofS (args := [.pointer (some ⟨b4, 0, none⟩), .pointer (some ⟨b3, 0, none⟩)]) Try.func30 rfl rfl ?_
  refine CS.seq ?_
  refine CS.ofC ?_
  refine C.region ?_
  refine G.loadAt (by first | exact .here | exact .next .here | exact .next (.next .here) | exact .next (.next (.next .here)) | exact .next (.next (.next (.next .here))) | exact .next (.next (.next (.next (.next .here)))) | exact .next (.next (.next (.next (.next (.next .here))))) | exact .next (.next (.next (.next (.next (.next (.next .here)))))) | exact .in1 | exact .next .in1 | exact .next (.next .in1) | exact .next (.next (.next .in1)) | exact .next (.next (.next (.next .in1))) | exact .in2 | exact .next .in2 | exact .next (.next .in2) | exact .next (.next (.next .in2)) | exact .next (.next (.next (.next .in2))) | exact .app .here | exact .app (.next .here) | exact .app (.next (.next .here)) | exact .app (.next (.next (.next .here))) | exact .next (.app .here) | exact .next (.next (.app .here)) | exact .next (.next (.next (.app .here))) | exact .next (.next (.next (.next (.app .here))))) rfl trivial rfl rfl Try.underlying4 rfl rfl (by rfl) ?_
  first | refine G.notD rfl trivial rfl rfl rfl ?_ | refine G.not rfl trivial rfl rfl rfl ?_
  refine G.nil ?_
  refine CS.condT rfl ?_
  refine CS.region ?_
  refine GS.catches rfl rfl rfl rfl ?_
  refine GS.ofG (fun _ _ _ h => h) ?_
  refine G.store (v := v) (.next .here) rfl trivial rfl I20 rfl rfl hv (by simp) _ rfl ?_
  refine G.nil ?_
  -- end 
  exact ⟨rfl, _, Res.of (rs := []) rfl rfl, rfl, rfl, rfl⟩
theorem tries_ok (W0 : World) (L L1 : List Seg) (g : FuncId) (l1 l2 args : List Value) (v : Value) (he : Enters Try.prog g) (hargs : l1 ++ [] ++ l2 = args)
    (h : ∀ S : List Seg, FnS Try.prog W0 g args.toArray (S ++ L) (fun e L' => L' = S ++ L1 ∧ e = .returned v)) :
    FnS Try.prog W0 14 #[.func (.func g) l1.toArray l2.toArray] L (fun e L' => L' = L1 ∧ e = .returned (.tuple #[.int .i64 0, .nilIface, .bool true])) := by
  refine FnS.ofD (args := [.func (.func g) l1.toArray l2.toArray]) Try.func14 rfl rfl ?_
  refine C.seq ?_
  refine C.region ?_
  refine G.assignI rfl trivial rfl rfl rfl ?_
  refine G.allocC (cs := [.nilIface]) rfl trivial rfl rfl I20 rfl ?_
  intro b3
  refine G.allocC (cs := [(.bool false)]) rfl trivial rfl rfl I4 rfl ?_
  intro b4
  refine G.nil ?_
  refine C.seq ?_
  refine C.region ?_
  refine G.makeFuncL (l2 := [.pointer (some ⟨b4, 0, none⟩), .pointer (some ⟨b3, 0, none⟩)]) rfl trivial rfl rfl rfl rfl ?_
  refine G.deferF rfl trivial rfl rfl rfl rfl ?_
  refine G.nil ?_
  refine C.seq ?_
  refine C.region ?_
  refine G.moveF rfl trivial rfl rfl rfl ?_
  refine G.call E18 rfl rfl trivial rfl rfl (try_ok W0 _ ([(b4, .row [.bool false] 4 1)] :: [(b3, .row [.nilIface] 20 1)] :: L1) g l1 l2 args v he hargs (fun b => h [[(b, .row [.int .i64 0] 23 1)], [(b4, .row [.bool false] 4 1)], [(b3, .row [.nilIface] 20 1)]])) rfl ?_
  rintro e L2 ⟨rfl, rfl⟩
  refine G.assignI rfl trivial rfl rfl rfl ?_
  refine G.nil ?_
  refine C.seq ?_
  refine C.region ?_
  refine G.store (v := .bool _) (by first | exact .here | exact .next .here | exact .next (.next .here) | exact .next (.next (.next .here)) | exact .next (.next (.next (.next .here))) | exact .next (.next (.next (.next (.next .here)))) | exact .next (.next (.next (.next (.next (.next .here))))) | exact .next (.next (.next (.next (.next (.next (.next .here)))))) | exact .in1 | exact .next .in1 | exact .next (.next .in1) | exact .next (.next (.next .in1)) | exact .next (.next (.next (.next .in1))) | exact .in2 | exact .next .in2 | exact .next (.next .in2) | exact .next (.next (.next .in2)) | exact .next (.next (.next (.next .in2))) | exact .app .here | exact .app (.next .here) | exact .app (.next (.next .here)) | exact .app (.next (.next (.next .here))) | exact .next (.app .here) | exact .next (.next (.app .here)) | exact .next (.next (.next (.app .here))) | exact .next (.next (.next (.next (.app .here))))) rfl trivial rfl I4 rfl rfl rfl (by first | decide | (simp; done) | (simp; omega)) _ (by first | (simp only [List.set_cons_succ, List.set_cons_zero]; done) | (simp only [List.set_cons_succ, List.set_cons_zero]; exact rfl) | exact rfl) ?_
  refine G.nil ?_
  refine C.seq ?_
  refine C.region ?_
  refine G.moveI rfl trivial rfl rfl rfl ?_
  refine G.assignI rfl trivial rfl rfl rfl ?_
  refine G.store (by first | exact .here | exact .next .here | exact .next (.next .here) | exact .next (.next (.next .here)) | exact .next (.next (.next (.next .here))) | exact .next (.next (.next (.next (.next .here)))) | exact .next (.next (.next (.next (.next (.next .here))))) | exact .next (.next (.next (.next (.next (.next (.next .here)))))) | exact .in1 | exact .next .in1 | exact .next (.next .in1) | exact .next (.next (.next .in1)) | exact .next (.next (.next (.next .in1))) | exact .in2 | exact .next .in2 | exact .next (.next .in2) | exact .next (.next (.next .in2)) | exact .next (.next (.next (.next .in2))) | exact .app .here | exact .app (.next .here) | exact .app (.next (.next .here)) | exact .app (.next (.next (.next .here))) | exact .next (.app .here) | exact .next (.next (.app .here)) | exact .next (.next (.next (.app .here))) | exact .next (.next (.next (.next (.app .here))))) rfl trivial rfl I20 rfl rfl rfl (by first | decide | (simp; done) | (simp; omega)) _ (by first | (simp only [List.set_cons_succ, List.set_cons_zero]; done) | (simp only [List.set_cons_succ, List.set_cons_zero]; exact rfl) | exact rfl) ?_
  refine G.store (v := .bool _) (by first | exact .here | exact .next .here | exact .next (.next .here) | exact .next (.next (.next .here)) | exact .next (.next (.next (.next .here))) | exact .next (.next (.next (.next (.next .here)))) | exact .next (.next (.next (.next (.next (.next .here))))) | exact .next (.next (.next (.next (.next (.next (.next .here)))))) | exact .in1 | exact .next .in1 | exact .next (.next .in1) | exact .next (.next (.next .in1)) | exact .next (.next (.next (.next .in1))) | exact .in2 | exact .next .in2 | exact .next (.next .in2) | exact .next (.next (.next .in2)) | exact .next (.next (.next (.next .in2))) | exact .app .here | exact .app (.next .here) | exact .app (.next (.next .here)) | exact .app (.next (.next (.next .here))) | exact .next (.app .here) | exact .next (.next (.app .here)) | exact .next (.next (.next (.app .here))) | exact .next (.next (.next (.next (.app .here))))) rfl trivial rfl I4 rfl rfl rfl (by first | decide | (simp; done) | (simp; omega)) _ (by first | (simp only [List.set_cons_succ, List.set_cons_zero]; done) | (simp only [List.set_cons_succ, List.set_cons_zero]; exact rfl) | exact rfl) ?_
  refine G.nil ?_
  refine C.ret ?_
  -- end 
  refine Lv.cons (by simp) E30 (triesD_back W0 _ _ _ _) rfl ?_
  rintro e u2 L2 ⟨rfl, rfl, rfl⟩
  exact Lv.retL (Res.three (v := .int .i64 0) (u := .nilIface) (x := .bool true) rfl (RV.tmp rfl) (RV.cell (.next .here) rfl Try.underlying20 rfl rfl) (RV.cell At.here rfl Try.underlying4 rfl rfl)) (fun _ h => h.tail.tail) ⟨rfl, rfl⟩
theorem tries_fault (W0 : World) (L L1 : List Seg) (g : FuncId) (l1 l2 args : List Value) (n : Int) (he : Enters Try.prog g) (hargs : l1 ++ [] ++ l2 = args)
    (h : ∀ S : List Seg, FnS Try.prog W0 g args.toArray (S ++ L) (fun e L' => L' = S ++ L1 ∧ e = .panicked (fault n))) :
    FnS Try.prog W0 14 #[.func (.func g) l1.toArray l2.toArray] L (fun e L' => L' = L1 ∧ e = .returned (.tuple #[.int .i64 n, .nilIface, .bool true])) := by
  refine FnS.ofD (args := [.func (.func g) l1.toArray l2.toArray]) Try.func14 rfl rfl ?_
  refine C.seq ?_
  refine C.region ?_
  refine G.assignI rfl trivial rfl rfl rfl ?_
  refine G.allocC (cs := [.nilIface]) rfl trivial rfl rfl I20 rfl ?_
  intro b3
  refine G.allocC (cs := [(.bool false)]) rfl trivial rfl rfl I4 rfl ?_
  intro b4
  refine G.nil ?_
  refine C.seq ?_
  refine C.region ?_
  refine G.makeFuncL (l2 := [.pointer (some ⟨b4, 0, none⟩), .pointer (some ⟨b3, 0, none⟩)]) rfl trivial rfl rfl rfl rfl ?_
  refine G.deferF rfl trivial rfl rfl rfl rfl ?_
  refine G.nil ?_
  refine C.seq ?_
  refine C.region ?_
  refine G.moveF rfl trivial rfl rfl rfl ?_
  refine G.call E18 rfl rfl trivial rfl rfl (try_fault W0 _ ([(b4, .row [.bool false] 4 1)] :: [(b3, .row [.nilIface] 20 1)] :: L1) g l1 l2 args n he hargs (fun b => h [[(b, .row [.int .i64 0] 23 1)], [(b4, .row [.bool false] 4 1)], [(b3, .row [.nilIface] 20 1)]])) rfl ?_
  rintro e L2 ⟨rfl, rfl⟩
  refine G.assignI rfl trivial rfl rfl rfl ?_
  refine G.nil ?_
  refine C.seq ?_
  refine C.region ?_
  refine G.store (v := .bool _) (by first | exact .here | exact .next .here | exact .next (.next .here) | exact .next (.next (.next .here)) | exact .next (.next (.next (.next .here))) | exact .next (.next (.next (.next (.next .here)))) | exact .next (.next (.next (.next (.next (.next .here))))) | exact .next (.next (.next (.next (.next (.next (.next .here)))))) | exact .in1 | exact .next .in1 | exact .next (.next .in1) | exact .next (.next (.next .in1)) | exact .next (.next (.next (.next .in1))) | exact .in2 | exact .next .in2 | exact .next (.next .in2) | exact .next (.next (.next .in2)) | exact .next (.next (.next (.next .in2))) | exact .app .here | exact .app (.next .here) | exact .app (.next (.next .here)) | exact .app (.next (.next (.next .here))) | exact .next (.app .here) | exact .next (.next (.app .here)) | exact .next (.next (.next (.app .here))) | exact .next (.next (.next (.next (.app .here))))) rfl trivial rfl I4 rfl rfl rfl (by first | decide | (simp; done) | (simp; omega)) _ (by first | (simp only [List.set_cons_succ, List.set_cons_zero]; done) | (simp only [List.set_cons_succ, List.set_cons_zero]; exact rfl) | exact rfl) ?_
  refine G.nil ?_
  refine C.seq ?_
  refine C.region ?_
  refine G.moveI rfl trivial rfl rfl rfl ?_
  refine G.assignI rfl trivial rfl rfl rfl ?_
  refine G.store (by first | exact .here | exact .next .here | exact .next (.next .here) | exact .next (.next (.next .here)) | exact .next (.next (.next (.next .here))) | exact .next (.next (.next (.next (.next .here)))) | exact .next (.next (.next (.next (.next (.next .here))))) | exact .next (.next (.next (.next (.next (.next (.next .here)))))) | exact .in1 | exact .next .in1 | exact .next (.next .in1) | exact .next (.next (.next .in1)) | exact .next (.next (.next (.next .in1))) | exact .in2 | exact .next .in2 | exact .next (.next .in2) | exact .next (.next (.next .in2)) | exact .next (.next (.next (.next .in2))) | exact .app .here | exact .app (.next .here) | exact .app (.next (.next .here)) | exact .app (.next (.next (.next .here))) | exact .next (.app .here) | exact .next (.next (.app .here)) | exact .next (.next (.next (.app .here))) | exact .next (.next (.next (.next (.app .here))))) rfl trivial rfl I20 rfl rfl rfl (by first | decide | (simp; done) | (simp; omega)) _ (by first | (simp only [List.set_cons_succ, List.set_cons_zero]; done) | (simp only [List.set_cons_succ, List.set_cons_zero]; exact rfl) | exact rfl) ?_
  refine G.store (v := .bool _) (by first | exact .here | exact .next .here | exact .next (.next .here) | exact .next (.next (.next .here)) | exact .next (.next (.next (.next .here))) | exact .next (.next (.next (.next (.next .here)))) | exact .next (.next (.next (.next (.next (.next .here))))) | exact .next (.next (.next (.next (.next (.next (.next .here)))))) | exact .in1 | exact .next .in1 | exact .next (.next .in1) | exact .next (.next (.next .in1)) | exact .next (.next (.next (.next .in1))) | exact .in2 | exact .next .in2 | exact .next (.next .in2) | exact .next (.next (.next .in2)) | exact .next (.next (.next (.next .in2))) | exact .app .here | exact .app (.next .here) | exact .app (.next (.next .here)) | exact .app (.next (.next (.next .here))) | exact .next (.app .here) | exact .next (.next (.app .here)) | exact .next (.next (.next (.app .here))) | exact .next (.next (.next (.next (.app .here))))) rfl trivial rfl I4 rfl rfl rfl (by first | decide | (simp; done) | (simp; omega)) _ (by first | (simp only [List.set_cons_succ, List.set_cons_zero]; done) | (simp only [List.set_cons_succ, List.set_cons_zero]; exact rfl) | exact rfl) ?_
  refine G.nil ?_
  refine C.ret ?_
  -- end 
  refine Lv.cons (by simp) E30 (triesD_back W0 _ _ _ _) rfl ?_
  rintro e u2 L2 ⟨rfl, rfl, rfl⟩
  exact Lv.retL (Res.three (v := .int .i64 n) (u := .nilIface) (x := .bool true) rfl (RV.tmp rfl) (RV.cell (.next .here) rfl Try.underlying20 rfl rfl) (RV.cell At.here rfl Try.underlying4 rfl rfl)) (fun _ h => h.tail.tail) ⟨rfl, rfl⟩
theorem tries_other (W0 : World) (L L1 : List Seg) (g : FuncId) (l1 l2 args : List Value) (t : TypeId) (v : Value) (ht : t ≠ 36) (he : Enters Try.prog g) (hargs : l1 ++ [] ++ l2 = args)
    (h : ∀ S : List Seg, FnS Try.prog W0 g args.toArray (S ++ L) (fun e L' => L' = S ++ L1 ∧ e = .panicked [{ v := .iface t v, recovered := false }])) :
    FnS Try.prog W0 14 #[.func (.func g) l1.toArray l2.toArray] L (fun e L' => L' = L1 ∧ e = .returned (.tuple #[.int .i64 0, .iface t v, .bool false])) := by
  refine FnS.ofD (args := [.func (.func g) l1.toArray l2.toArray]) Try.func14 rfl rfl ?_
  refine C.seq ?_
  refine C.region ?_
  refine G.assignI rfl trivial rfl rfl rfl ?_
  refine G.allocC (cs := [.nilIface]) rfl trivial rfl rfl I20 rfl ?_
  intro b3
  refine G.allocC (cs := [(.bool false)]) rfl trivial rfl rfl I4 rfl ?_
  intro b4
  refine G.nil ?_
  refine C.seq ?_
  refine C.region ?_
  refine G.makeFuncL (l2 := [.pointer (some ⟨b4, 0, none⟩), .pointer (some ⟨b3, 0, none⟩)]) rfl trivial rfl rfl rfl rfl ?_
  refine G.deferF rfl trivial rfl rfl rfl rfl ?_
  refine G.nil ?_
  refine C.seq ?_
  refine C.region ?_
  refine G.moveF rfl trivial rfl rfl rfl ?_
  refine G.call E18 rfl rfl trivial rfl rfl (try_other W0 _ ([(b4, .row [.bool false] 4 1)] :: [(b3, .row [.nilIface] 20 1)] :: L1) g l1 l2 args t v [] ht he hargs (fun b => h [[(b, .row [.int .i64 0] 23 1)], [(b4, .row [.bool false] 4 1)], [(b3, .row [.nilIface] 20 1)]])) rfl ?_
  rintro e L2 ⟨rfl, rfl⟩
  refine Lv.cons (by simp) E30 (triesD_other W0 _ (.iface t v) .nilIface _ b4 b3 rfl) rfl ?_
  rintro e u2 L2 ⟨rfl, rfl, rfl⟩
  exact Lv.retL (Res.three (v := .int .i64 0) (u := .iface t v) (x := .bool false) rfl (RV.tmp rfl) (RV.cell (.next .here) rfl Try.underlying20 rfl rfl) (RV.cell At.here rfl Try.underlying4 rfl rfl)) (fun _ h => h.tail.tail) ⟨rfl, rfl⟩
end Go.Proofs.Ytiacjhloldmkjaa
