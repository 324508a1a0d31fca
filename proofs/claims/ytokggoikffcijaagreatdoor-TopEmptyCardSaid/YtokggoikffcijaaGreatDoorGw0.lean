/-
  Waits cleared where nobody waits: walked, and as a native of the evaluator; a text's last bytes taken off; walked.
-/
import Derived.Test.YtokggoikffcijaaGreatDoorK1
import Derived.Test.YtokggoikffcijaaGreatDoorK2
import Derived.Test.YtokggoikffcijaaGreatDoorK3
import Derived.Test.YtokggoikffcijaaGreatDoorTy
namespace Go.Proofs.YtokggoikffcijaaGreatDoor
open Go Go.SL Go.RowKit
theorem clear_empty (W0 : World) (L0 : List Seg) (bw bm ck kw : Nat) (t : Int) : FnS Tryz.prog W0 264 #[.pointer (some ⟨bw, 0, none⟩), .int .i64 t] ([(bw, .row [.map (some bm)] 268 kw)] :: [(bm, mapO .i64 [] ck)] :: L0)
    (fun e L' => ∃ i1 i2 : Seg, L' = i1 :: i2 :: [(bw, .row [.map (some bm)] 268 kw)] :: [(bm, mapO .i64 [] ck)] :: L0 ∧ e = .returned (.tuple #[])) := by
  refine FnS.of (args := [.pointer (some ⟨bw, 0, none⟩), .int .i64 t]) Tryz.func264 rfl rfl ?_
  refine C.seq ?_
  refine C.region ?_
  refine G.boxI rfl trivial rfl rfl rfl ?_
  intro b3
  refine G.nil ?_
  refine C.seq ?_
  refine C.seq ?_
  refine C.region ?_
  refine G.moveP rfl trivial rfl rfl rfl ?_
  refine G.ptrEq rfl trivial rfl rfl Tryz.underlying146 rfl rfl ?_
  refine G.nil ?_
  refine C.condF rfl ?_
  refine C.skip ?_
  refine C.seq ?_
  refine C.drawn mixed (_) [5] (fun _ h => h) ?_
  refine GA.pure (i := 0) (fun _ _ _ _ _ h => h) rfl (by kernel_rfl) trivial rfl rfl (Y.moveP rfl rfl) (#[true, false, false, false, false, false]) (by kernel_rfl) ?_
  first | refine GA.pure (i := 1) (fun _ _ _ _ _ h => h) rfl (by kernel_rfl) trivial rfl rfl (Y.nilCheckP rfl rfl) (#[true, true, false, false, false, false]) (by kernel_rfl) ?_ | refine GA.pure (i := 1) (fun _ _ _ _ _ h => h) rfl (by kernel_rfl) trivial rfl rfl (Y.nilCheckF rfl rfl) (#[true, true, false, false, false, false]) (by kernel_rfl) ?_
  refine GA.pure (i := 2) (fun _ _ _ _ _ h => h) rfl (by kernel_rfl) trivial rfl rfl (Y.fieldAddr rfl Tryz.underlying268 rfl I266 rfl rfl) (#[true, true, true, false, false, false]) (by kernel_rfl) ?_
  refine GA.read (i := 3) (fun _ _ _ _ _ h => h) rfl (by kernel_rfl) (by kernel_rfl) trivial rfl rfl (Y.loadAt (by first | exact .here | exact .next .here | exact .next (.next .here) | exact .next (.next (.next .here)) | exact .next (.next (.next (.next .here))) | exact .next (.next (.next (.next (.next .here)))) | exact .next (.next (.next (.next (.next (.next .here))))) | exact .next (.next (.next (.next (.next (.next (.next .here)))))) | exact .in1 | exact .next .in1 | exact .next (.next .in1) | exact .next (.next (.next .in1)) | exact .next (.next (.next (.next .in1))) | exact .in2 | exact .next .in2 | exact .next (.next .in2) | exact .next (.next (.next .in2)) | exact .next (.next (.next (.next .in2))) | exact .app .here | exact .app (.next .here) | exact .app (.next (.next .here)) | exact .app (.next (.next (.next .here))) | exact .app (.next (.next (.next (.next .here)))) | exact .app (.next (.next (.next (.next (.next .here))))) | exact .app (.next (.next (.next (.next (.next (.next .here)))))) | exact .app (.next (.next (.next (.next (.next (.next (.next .here))))))) | exact .app .in1 | exact .app .in2 | exact .app (.next .in1) | exact .next (.app .in1) | exact .next (.next (.app .in1)) | exact .next (.app .here) | exact .next (.next (.app .here)) | exact .next (.next (.next (.app .here))) | exact .next (.next (.next (.next (.app .here))))) rfl Tryz.underlying266 rfl rfl (by rfl)) (#[true, true, true, true, false, false]) (by kernel_rfl) ?_
  refine GA.read (i := 4) (fun _ _ _ _ _ h => h) rfl (by kernel_rfl) (by kernel_rfl) trivial rfl rfl (Y.loadAt (by first | exact .here | exact .next .here | exact .next (.next .here) | exact .next (.next (.next .here)) | exact .next (.next (.next (.next .here))) | exact .next (.next (.next (.next (.next .here)))) | exact .next (.next (.next (.next (.next (.next .here))))) | exact .next (.next (.next (.next (.next (.next (.next .here)))))) | exact .in1 | exact .next .in1 | exact .next (.next .in1) | exact .next (.next (.next .in1)) | exact .next (.next (.next (.next .in1))) | exact .in2 | exact .next .in2 | exact .next (.next .in2) | exact .next (.next (.next .in2)) | exact .next (.next (.next (.next .in2))) | exact .app .here | exact .app (.next .here) | exact .app (.next (.next .here)) | exact .app (.next (.next (.next .here))) | exact .app (.next (.next (.next (.next .here)))) | exact .app (.next (.next (.next (.next (.next .here))))) | exact .app (.next (.next (.next (.next (.next (.next .here)))))) | exact .app (.next (.next (.next (.next (.next (.next (.next .here))))))) | exact .app .in1 | exact .app .in2 | exact .app (.next .in1) | exact .next (.app .in1) | exact .next (.next (.app .in1)) | exact .next (.app .here) | exact .next (.next (.app .here)) | exact .next (.next (.next (.app .here))) | exact .next (.next (.next (.next (.app .here))))) rfl Tryz.underlying2 rfl rfl (by rfl)) (#[true, true, true, true, true, false]) (by kernel_rfl) ?_
  refine GA.one (i := 5) rfl (by kernel_rfl) (#[true, true, true, true, true, true]) (by kernel_rfl) ?_
  refine G.delete (.next (.next .here)) (by simp) rfl trivial rfl Tryz.underlying266 Tryz.underlying2 rfl rfl ?_
  refine G.less (L' := [(b3, .row [.int .i64 t] 2 1)] :: [(bw, .row [.map (some bm)] 268 kw)] :: [(bm, mapO .i64 [] ck)] :: L0) (fun _ h => h) ?_
  refine G.nil ?_
  refine ⟨fun _ h => absurd h (by simp [hit]), ?_⟩
  refine GA.done (by kernel_rfl) ?_
  refine C.seq ?_
  refine C.region ?_
  refine G.moveP rfl trivial rfl rfl rfl ?_
  first | refine G.nilCheckP rfl trivial rfl rfl rfl ?_ | refine G.nilCheckF rfl trivial rfl rfl rfl ?_
  refine G.fieldAddr rfl trivial rfl rfl Tryz.underlying268 rfl I266 rfl rfl ?_
  refine G.loadAt (by first | exact .here | exact .next .here | exact .next (.next .here) | exact .next (.next (.next .here)) | exact .next (.next (.next (.next .here))) | exact .next (.next (.next (.next (.next .here)))) | exact .next (.next (.next (.next (.next (.next .here))))) | exact .next (.next (.next (.next (.next (.next (.next .here)))))) | exact .in1 | exact .next .in1 | exact .next (.next .in1) | exact .next (.next (.next .in1)) | exact .next (.next (.next (.next .in1))) | exact .in2 | exact .next .in2 | exact .next (.next .in2) | exact .next (.next (.next .in2)) | exact .next (.next (.next (.next .in2))) | exact .app .here | exact .app (.next .here) | exact .app (.next (.next .here)) | exact .app (.next (.next (.next .here))) | exact .app (.next (.next (.next (.next .here)))) | exact .app (.next (.next (.next (.next (.next .here))))) | exact .app (.next (.next (.next (.next (.next (.next .here)))))) | exact .app (.next (.next (.next (.next (.next (.next (.next .here))))))) | exact .app .in1 | exact .app .in2 | exact .app (.next .in1) | exact .next (.app .in1) | exact .next (.next (.app .in1)) | exact .next (.app .here) | exact .next (.next (.app .here)) | exact .next (.next (.next (.app .here))) | exact .next (.next (.next (.next (.app .here))))) rfl trivial rfl rfl Tryz.underlying266 rfl rfl (by rfl) ?_
  refine G.range (.next (.next .here)) rfl trivial rfl rfl Tryz.underlying266 rfl ?_
  intro bi
  refine G.nil ?_
  refine C.block ?_
  refine C.loop (fun m F D' L' => m = 0 ∧ F 17 = .pointer (some ⟨bi, 0, none⟩) ∧ D' = [] ∧ [(bi, .obj (.mapIter (some bm) ck #[] ck))] :: [(b3, .row [.int .i64 t] 2 1)] :: [(bw, .row [.map (some bm)] 268 kw)] :: [(bm, mapO .i64 [] ck)] :: L0 = L') ⟨_, ⟨rfl, rfl, rfl, rfl⟩⟩ ?_
  rintro m F D' L' ⟨rfl, h17, rfl, rfl⟩
  refine C.fix (d := 17) h17 ?_
  refine C.seq ?_
  refine C.region ?_
  refine G.nextEnd .here (.next (.next (.next .here))) (fun e he => (by cases he)) (Nat.le_refl _) (fun e he => (by cases he)) rfl trivial rfl rfl rfl ?_
  refine G.extractL rfl trivial rfl rfl rfl rfl ?_
  refine G.nil ?_
  refine C.seq ?_
  refine C.condF rfl ?_
  refine C.exit ?_
  -- end 
  exact ⟨rfl, _, Res.of (rs := []) rfl rfl, _, _, rfl, rfl⟩
end Go.Proofs.YtokggoikffcijaaGreatDoor
