/-
  Waits: WaitAll, WaitClear walked.
-/
import Derived.Test.YtfenbeiengnpbaaWa8
namespace Go.Proofs.Ytfenbeiengnpbaa
open Go Go.SL Go.RowKit Go.Sort

theorem P42 {x y a b c d : Seg} {L : List Seg} : (x :: y :: a :: b :: c :: d :: L).flatten.Perm (c :: d :: x :: y :: a :: b :: L).flatten := (List.perm_append_comm_assoc [x, y, a, b] [c, d] L).flatten
theorem P33 {x y z a b c : Seg} {L : List Seg} : (x :: y :: z :: a :: b :: c :: L).flatten.Perm (a :: b :: c :: x :: y :: z :: L).flatten := (List.perm_append_comm_assoc [x, y, z] [a, b, c] L).flatten
theorem P23 {x y a b c : Seg} {L : List Seg} : (x :: y :: a :: b :: c :: L).flatten.Perm (a :: b :: c :: x :: y :: L).flatten := (List.perm_append_comm_assoc [x, y] [a, b, c] L).flatten
theorem P61 {x a b c d e : Seg} {L : List Seg} : (x :: a :: b :: c :: d :: e :: L).flatten.Perm (a :: b :: c :: d :: e :: x :: L).flatten := (List.perm_append_comm_assoc [x] [a, b, c, d, e] L).flatten
theorem same_set {g g' : Int → List Int} {es es' : List Edge} {t : Int} {xs : List Int} {b b' : Bool} (hs : Same g es) (h : (b = true ∧ ¬ Rch g xs t ∧ g' = setG g t (insAll xs)) ∨ (b = false ∧ Rch g xs t ∧ g' = g)) (h' : (b' = true ∧ ¬ Rch (gE es) xs t ∧ es' = setE t xs es) ∨ (b' = false ∧ Rch (gE es) xs t ∧ es' = es)) :
    b = b' ∧ Same g' es' ∧ es'.length ≤ es.length + xs.length := by
  have hr := hs.rch xs t
  rcases h with ⟨rfl, h1, rfl⟩ | ⟨rfl, h1, rfl⟩ <;> rcases h' with ⟨rfl, h2, rfl⟩ | ⟨rfl, h2, rfl⟩
  · exact ⟨rfl, hs.set t xs, by unfold setE; have := fromNot_le t es; simp; omega⟩
  · exact absurd (hr.2 h2) h1
  · exact absurd (hr.1 h1) h2
  · exact ⟨rfl, hs, by omega⟩
section laws
variable (W0 : World)
theorem wall_walk (a : Option Addr) (len cap : Nat) (ops : List WOp) (h : WOps W0 a len cap ops) : FnS Try.prog W0 3 #[.slice a len cap] [] (fun e _ => e = .returned (.bool true)) := by
  obtain ⟨rfl, hlc, hcap, hr, hwf⟩ := h
  have hmax : maxLen ≤ 9223372036854775807 := by decide
  refine FnS.of (args := [.slice a ops.length cap]) Try.func3 rfl rfl ?_
  refine C.seq ?_
  refine C.region ?_
  refine G.assignB rfl trivial rfl rfl rfl ?_
  refine G.nil ?_
  refine C.seq ?_
  refine C.region ?_
  refine G.call E8 rfl rfl trivial rfl rfl (wbegun_spec W0 _) rfl ?_
  rintro e L2 ⟨rfl, rfl⟩
  refine G.assignB rfl trivial rfl rfl rfl ?_
  refine G.nil ?_
  refine C.seq ?_
  refine C.seq ?_
  refine C.region ?_
  refine G.moveB rfl trivial rfl rfl rfl ?_
  first | refine G.notD rfl trivial rfl rfl rfl ?_ | refine G.not rfl trivial rfl rfl rfl ?_
  refine G.nil ?_
  refine C.condF rfl ?_
  refine C.skip ?_
  refine C.seq ?_
  refine C.region ?_
  refine G.call E9 rfl rfl trivial rfl rfl (wnew_spec W0 []) rfl ?_
  rintro e L2 ⟨bw, s1, s2, s3, h1, rfl, rfl⟩
  refine G.assignP rfl trivial rfl rfl rfl ?_
  refine G.nil ?_
  refine C.seq ?_
  refine C.region ?_
  refine G.buildL (cs := [.slice none 0 0]) rfl trivial rfl rfl Try.underlying29 I29 B29 rfl rfl ?_
  refine G.boxG rfl trivial rfl rfl rfl ?_
  intro b14
  refine G.assignP rfl trivial rfl rfl rfl ?_
  refine G.less (L' := s1 :: s2 :: s3 :: [] :: [(b14, .row [.slice none 0 0] 29 1)] :: []) (fun _ h => (h.of_flat (by simpa using (List.perm_middle (l₁ := s1 ++ s2 ++ s3) (a := (b14, SObj.row [.slice none 0 0] 29 1)) (l₂ := [])).symm))) ?_
  refine G.nil ?_
  refine C.seq ?_
  refine C.seq ?_
  refine C.region ?_
  refine G.assignI rfl trivial rfl rfl rfl ?_
  refine G.nil ?_
  refine C.block ?_
  refine C.loop (fun m F D' L' => ∃ (i : Nat) (g : Int → List Int) (es : List Edge) (s1 s2 s3 r1 r2 : Seg), m = ops.length - i + 0 ∧ i ≤ ops.length ∧ i ≤ 60 ∧ Same g es ∧ es.length ≤ 10 * i ∧ WtIs bw g i s1 s2 s3 ∧ RwIs b14 es r1 r2 ∧ F 0 = .slice a ops.length cap ∧ F 4 = .pointer (some ⟨bw, 0, none⟩) ∧ F 5 = .pointer (some ⟨b14, 0, none⟩) ∧ F 6 = .int .i64 (i : Int) ∧ D' = [] ∧ s1 :: s2 :: s3 :: r1 :: r2 :: [] = L') ⟨_, ⟨0, g0, [], s1, s2, s3, [], _, rfl, by omega, by omega, fun k => rfl, by simp, h1, ⟨_, OwnS.nil _ _, rfl⟩, rfl, rfl, rfl, rfl, rfl, rfl⟩⟩ ?_
  rintro m F D' L' ⟨i, g, es, s1, s2, s3, r1, r2, rfl, hi, hi60, hsm, hel, hw, hq, h0, h4, h5, h6, rfl, rfl⟩
  refine C.fix (d := 0) h0 ?_
  refine C.fix (d := 4) h4 ?_
  refine C.fix (d := 5) h5 ?_
  refine C.fix (d := 6) h6 ?_
  refine C.seq ?_
  refine C.seq ?_
  refine C.region ?_
  refine G.moveI rfl trivial rfl rfl rfl ?_
  refine G.moveS rfl trivial rfl rfl rfl ?_
  refine G.lenSlice rfl trivial rfl rfl Try.underlying22 rfl ?_
  refine G.bin rfl trivial rfl rfl rfl rfl rfl ?_
  refine G.moveB rfl trivial rfl rfl rfl ?_
  refine G.fork (t := 19) _ rfl ?_ ?_
  · intro hg19
    refine G.moveI rfl ⟨_, rfl, rfl, rfl⟩ rfl rfl rfl ?_
    refine G.bin rfl ⟨_, rfl, rfl, rfl⟩ rfl rfl rfl rfl rfl ?_
    first | refine G.pickT rfl trivial rfl rfl rfl rfl ?_ | refine G.pickF rfl trivial rfl rfl rfl rfl ?_
    refine G.nil ?_
    refine C.cond _ rfl ?_ ?_
    · intro hc1
      have hlt : i < ops.length := by first | assumption | omega
      obtain ⟨p, o, rfl, _⟩ := (hr []).some_ (by rw [chunk_length (k := 3) (fun _ _ => rfl)]; omega)
      refine C.skip ?_
      refine C.seq ?_
      refine C.block ?_
      refine C.seq ?_
      refine C.region ?_
      refine G.moveS rfl trivial rfl rfl rfl ?_
      refine G.moveI rfl trivial rfl rfl rfl ?_
      refine G.indexAddr rfl trivial rfl rfl Try.underlying22 I32 rfl rfl (by omega) ?_
      obtain ⟨hoc, hom, hor⟩ := hwf _ (List.getElem_mem hlt)
      refine G.loadAgg (wopC ops[i]) rfl trivial rfl rfl Try.underlying32 rfl I32 rfl rfl (cellW hr hlt) ?_
      generalize ops[i] = op at hoc hom hor ⊢
      obtain ⟨kd, tx, oa, oc, l⟩ := op
      simp only at hoc hom hor
      refine G.allocC (cs := [(.int .i64 0), (.int .i64 0), (.slice none 0 0)]) rfl trivial rfl rfl I32 rfl ?_
      intro b7
      refine G.stRow .here rfl trivial rfl I32 rfl rfl rfl (by rfl) (wopC_ok _) ?_
      refine G.less (L' := s1 :: s2 :: s3 :: r1 :: r2 :: [(b7, .row (wopC (kd, tx, oa, oc, l)) 32 3)] :: []) (fun _ h => h.of_flat P61) ?_
      refine G.nil ?_
      refine C.seq ?_
      refine C.region ?_
      refine G.fieldAddr rfl trivial rfl rfl Try.underlying32 rfl I30 rfl rfl ?_
      refine G.loadAt (by first | exact .here | exact .next .here | exact .next (.next .here) | exact .next (.next (.next .here)) | exact .next (.next (.next (.next .here))) | exact .next (.next (.next (.next (.next .here)))) | exact .next (.next (.next (.next (.next (.next .here))))) | exact .next (.next (.next (.next (.next (.next (.next .here)))))) | exact .in1 | exact .next .in1 | exact .next (.next .in1) | exact .next (.next (.next .in1)) | exact .next (.next (.next (.next .in1))) | exact .in2 | exact .next .in2 | exact .next (.next .in2) | exact .next (.next (.next .in2)) | exact .next (.next (.next (.next .in2))) | exact .app .here | exact .app (.next .here) | exact .app (.next (.next .here)) | exact .app (.next (.next (.next .here))) | exact .app (.next (.next (.next (.next .here)))) | exact .app (.next (.next (.next (.next (.next .here))))) | exact .app (.next (.next (.next (.next (.next (.next .here)))))) | exact .app (.next (.next (.next (.next (.next (.next (.next .here))))))) | exact .app .in1 | exact .app .in2 | exact .app (.next .in1) | exact .next (.app .in1) | exact .next (.next (.app .in1)) | exact .next (.app .here) | exact .next (.next (.app .here)) | exact .next (.next (.next (.app .here))) | exact .next (.next (.next (.next (.app .here))))) rfl trivial rfl rfl Try.underlying30 rfl rfl (by rfl) ?_
      refine G.assignS rfl trivial rfl rfl rfl ?_
      refine G.fix (d := 8) (v := .slice oa l.length oc) rfl ?_
      refine G.nil ?_
      refine C.cut (fun F D' L' => ∃ (xs : List Int), xs.length ≤ 10 ∧ (∀ L, Rd W0 L oa (xs.map (Value.int .i64))) ∧ F 0 = .slice (some ⟨p, o, none⟩) ops.length cap ∧ F 4 = .pointer (some ⟨bw, 0, none⟩) ∧ F 5 = .pointer (some ⟨b14, 0, none⟩) ∧ F 6 = .int .i64 (i : Int) ∧ F 7 = .pointer (some ⟨b7, 0, none⟩) ∧ F 8 = .slice oa xs.length oc ∧ D' = [] ∧ s1 :: s2 :: s3 :: r1 :: r2 :: [(b7, .row (wopC (kd, tx, oa, oc, l)) 32 3)] :: [] = L') ?_ ?_
      ·
        refine C.seq ?_
        refine C.region ?_
        refine G.moveS rfl trivial rfl rfl rfl ?_
        refine G.lenSlice rfl trivial rfl rfl Try.underlying30 rfl ?_
        refine G.bin rfl trivial rfl rfl rfl rfl rfl ?_
        refine G.nil ?_
        refine C.cond _ rfl ?_ ?_
        · intro hc2
          refine C.region ?_
          refine G.moveS rfl trivial rfl rfl rfl ?_
          refine G.sliceH rfl trivial rfl rfl Try.underlying30 I2 rfl rfl (by omega) ?_
          refine G.assignS rfl trivial rfl rfl rfl ?_
          refine G.nil ?_
          exact ⟨l.take 10, (by rw [List.length_take]; exact Nat.min_le_left _ _), fun L => by rw [List.map_take]; exact (hor L).take, rfl, rfl, rfl, rfl, rfl, by rw [List.length_take, Nat.min_eq_left (by omega)]; rfl, rfl, rfl⟩
        · intro hc2
          refine C.skip ?_
          exact ⟨l, by omega, hor, rfl, rfl, rfl, rfl, rfl, rfl, rfl, rfl⟩
      ·
        rintro F D' L' ⟨xs, hxs, hxr, h0, h4, h5, h6, h7, h8, rfl, rfl⟩
        refine C.fix (d := 0) h0 ?_
        refine C.fix (d := 4) h4 ?_
        refine C.fix (d := 5) h5 ?_
        refine C.fix (d := 6) h6 ?_
        refine C.fix (d := 7) h7 ?_
        refine C.fix (d := 8) h8 ?_
        refine C.cut (fun F D' L' => ∃ (g : Int → List Int) (es : List Edge) (s1 s2 s3 r1 r2 : Seg), Same g es ∧ es.length ≤ 10 * (i + 1) ∧ WtIs bw g (i + 1) s1 s2 s3 ∧ RwIs b14 es r1 r2 ∧ F 0 = .slice (some ⟨p, o, none⟩) ops.length cap ∧ F 4 = .pointer (some ⟨bw, 0, none⟩) ∧ F 5 = .pointer (some ⟨b14, 0, none⟩) ∧ F 6 = .int .i64 (i : Int) ∧ F 7 = .pointer (some ⟨b7, 0, none⟩) ∧ F 8 = .slice oa xs.length oc ∧ D' = [] ∧ s1 :: s2 :: s3 :: r1 :: r2 :: [(b7, .row (wopC (kd, tx, oa, oc, l)) 32 3)] :: [] = L') ?_ ?_
        ·
          refine C.seq ?_
          refine C.region ?_
          refine G.fieldAddr rfl trivial rfl rfl Try.underlying32 rfl I3 rfl rfl ?_
          refine G.loadAt (by first | exact .here | exact .next .here | exact .next (.next .here) | exact .next (.next (.next .here)) | exact .next (.next (.next (.next .here))) | exact .next (.next (.next (.next (.next .here)))) | exact .next (.next (.next (.next (.next (.next .here))))) | exact .next (.next (.next (.next (.next (.next (.next .here)))))) | exact .in1 | exact .next .in1 | exact .next (.next .in1) | exact .next (.next (.next .in1)) | exact .next (.next (.next (.next .in1))) | exact .in2 | exact .next .in2 | exact .next (.next .in2) | exact .next (.next (.next .in2)) | exact .next (.next (.next (.next .in2))) | exact .app .here | exact .app (.next .here) | exact .app (.next (.next .here)) | exact .app (.next (.next (.next .here))) | exact .app (.next (.next (.next (.next .here)))) | exact .app (.next (.next (.next (.next (.next .here))))) | exact .app (.next (.next (.next (.next (.next (.next .here)))))) | exact .app (.next (.next (.next (.next (.next (.next (.next .here))))))) | exact .app .in1 | exact .app .in2 | exact .app (.next .in1) | exact .next (.app .in1) | exact .next (.next (.app .in1)) | exact .next (.app .here) | exact .next (.next (.app .here)) | exact .next (.next (.next (.app .here))) | exact .next (.next (.next (.next (.app .here))))) rfl trivial rfl rfl Try.underlying3 rfl rfl (by rfl) ?_
          refine G.nil ?_
          refine C.block ?_
          refine C.seq ?_
          refine C.region ?_
          refine G.bin rfl trivial rfl rfl rfl rfl rfl ?_
          refine G.assignB rfl trivial rfl rfl rfl ?_
          refine G.nil ?_
          refine C.cond _ rfl ?_ ?_
          · intro hc3
            refine C.seq ?_
            refine C.drawn mixed ([[(b7, .row (wopC (kd, tx, oa, oc, l)) 32 3)]]) [] (fun _ h => h.tail.tail.tail.tail.tail) ?_
            refine GA.pure (i := 0) (fun _ _ _ _ _ h => h) rfl (by kernel_rfl) trivial rfl rfl (Y.moveP rfl rfl) (#[true, false, false, false, false, false, false, false, false, false, false]) (by kernel_rfl) ?_
            refine GA.pure (i := 1) (fun _ _ _ _ _ h => h) rfl (by kernel_rfl) trivial rfl rfl (Y.fieldAddr rfl Try.underlying32 rfl I2 rfl rfl) (#[true, true, false, false, false, false, false, false, false, false, false]) (by kernel_rfl) ?_
            refine GA.read (i := 2) (fun _ _ _ _ _ h => h) rfl (by kernel_rfl) (by kernel_rfl) trivial rfl rfl (Y.loadAt (by first | exact .here | exact .next .here | exact .next (.next .here) | exact .next (.next (.next .here)) | exact .next (.next (.next (.next .here))) | exact .next (.next (.next (.next (.next .here)))) | exact .next (.next (.next (.next (.next (.next .here))))) | exact .next (.next (.next (.next (.next (.next (.next .here)))))) | exact .in1 | exact .next .in1 | exact .next (.next .in1) | exact .next (.next (.next .in1)) | exact .next (.next (.next (.next .in1))) | exact .in2 | exact .next .in2 | exact .next (.next .in2) | exact .next (.next (.next .in2)) | exact .next (.next (.next (.next .in2))) | exact .app .here | exact .app (.next .here) | exact .app (.next (.next .here)) | exact .app (.next (.next (.next .here))) | exact .app (.next (.next (.next (.next .here)))) | exact .app (.next (.next (.next (.next (.next .here))))) | exact .app (.next (.next (.next (.next (.next (.next .here)))))) | exact .app (.next (.next (.next (.next (.next (.next (.next .here))))))) | exact .app .in1 | exact .app .in2 | exact .app (.next .in1) | exact .next (.app .in1) | exact .next (.next (.app .in1)) | exact .next (.app .here) | exact .next (.next (.app .here)) | exact .next (.next (.next (.app .here))) | exact .next (.next (.next (.next (.app .here))))) rfl Try.underlying2 rfl rfl (by rfl)) (#[true, true, true, false, false, false, false, false, false, false, false]) (by kernel_rfl) ?_
            refine GA.pure (i := 3) (fun _ _ _ _ _ h => h) rfl (by kernel_rfl) trivial rfl rfl (Y.moveS rfl rfl) (#[true, true, true, true, false, false, false, false, false, false, false]) (by kernel_rfl) ?_
            refine GA.pure (i := 5) (fun _ _ _ _ _ h => h) rfl (by kernel_rfl) trivial rfl rfl (Y.moveP rfl rfl) (#[true, true, true, true, false, true, false, false, false, false, false]) (by kernel_rfl) ?_
            refine GA.pure (i := 6) (fun _ _ _ _ _ h => h) rfl (by kernel_rfl) trivial rfl rfl (Y.fieldAddr rfl Try.underlying32 rfl I2 rfl rfl) (#[true, true, true, true, false, true, true, false, false, false, false]) (by kernel_rfl) ?_
            refine GA.read (i := 7) (fun _ _ _ _ _ h => h) rfl (by kernel_rfl) (by kernel_rfl) trivial rfl rfl (Y.loadAt (by first | exact .here | exact .next .here | exact .next (.next .here) | exact .next (.next (.next .here)) | exact .next (.next (.next (.next .here))) | exact .next (.next (.next (.next (.next .here)))) | exact .next (.next (.next (.next (.next (.next .here))))) | exact .next (.next (.next (.next (.next (.next (.next .here)))))) | exact .in1 | exact .next .in1 | exact .next (.next .in1) | exact .next (.next (.next .in1)) | exact .next (.next (.next (.next .in1))) | exact .in2 | exact .next .in2 | exact .next (.next .in2) | exact .next (.next (.next .in2)) | exact .next (.next (.next (.next .in2))) | exact .app .here | exact .app (.next .here) | exact .app (.next (.next .here)) | exact .app (.next (.next (.next .here))) | exact .app (.next (.next (.next (.next .here)))) | exact .app (.next (.next (.next (.next (.next .here))))) | exact .app (.next (.next (.next (.next (.next (.next .here)))))) | exact .app (.next (.next (.next (.next (.next (.next (.next .here))))))) | exact .app .in1 | exact .app .in2 | exact .app (.next .in1) | exact .next (.app .in1) | exact .next (.next (.app .in1)) | exact .next (.app .here) | exact .next (.next (.app .here)) | exact .next (.next (.next (.app .here))) | exact .next (.next (.next (.next (.app .here))))) rfl Try.underlying2 rfl rfl (by rfl)) (#[true, true, true, true, false, true, true, true, false, false, false]) (by kernel_rfl) ?_
            refine GA.pure (i := 8) (fun _ _ _ _ _ h => h) rfl (by kernel_rfl) trivial rfl rfl (Y.moveS rfl rfl) (#[true, true, true, true, false, true, true, true, true, false, false]) (by kernel_rfl) ?_
            refine GA.one (i := 4) rfl (by kernel_rfl) (#[true, true, true, true, true, true, true, true, true, false, false]) (by kernel_rfl) ?_
            refine G.call E10 rfl rfl trivial rfl rfl (set_spec W0 _ bw g i s1 s2 s3 hw (by omega) tx oa oc xs (by omega) (hxr _)) rfl ?_
            rintro e L2 ⟨bb, g', s4, s5, s6, hb1, hw2, rfl, rfl⟩
            refine G.nil ?_
            refine ⟨fun _ _ h => h.tail.tail.tail.tail.tail, ?_⟩
            refine GA.one (i := 9) rfl (by kernel_rfl) (#[true, true, true, true, true, true, true, true, true, true, false]) (by kernel_rfl) ?_
            refine G.call E11 rfl rfl trivial rfl rfl (FnS.perm (rset_spec W0 _ b14 es r1 r2 hq (by omega) tx oa oc xs (by omega) (hxr _) (fun _ _ => hxr _)) P32) rfl ?_
            rintro e L2 ⟨bb2, es', r3, r4, hb2, hq2, rfl, rfl⟩
            obtain ⟨rfl, hsm2, hel2⟩ := same_set hsm hb1 hb2
            refine G.less (L' := s4 :: s5 :: s6 :: r3 :: r4 :: [(b7, .row (wopC (kd, tx, oa, oc, l)) 32 3)] :: []) (fun _ h => h.of_flat P23) ?_
            refine G.nil ?_
            refine ⟨fun _ _ h => h.tail.tail.tail.tail.tail, ?_⟩
            refine GA.pure (i := 10) (fun _ _ _ _ _ h => h) rfl (by kernel_rfl) trivial rfl rfl (Y.boolNe rfl Try.underlying4 rfl rfl) (#[true, true, true, true, true, true, true, true, true, true, true]) (by kernel_rfl) ?_
            refine GA.fix (d := 50) (v := .bool false) (by show Value.bool _ = _; simp) ?_
            refine GA.done (by kernel_rfl) ?_
            refine C.condF rfl ?_
            refine C.skip ?_
            exact ⟨g', es', s4, s5, s6, r3, r4, hsm2, by omega, hw2, hq2, rfl, rfl, rfl, rfl, rfl, rfl, rfl, rfl⟩
          · intro hc3
            refine C.seq ?_
            refine C.region ?_
            refine G.bin rfl trivial rfl rfl rfl rfl rfl ?_
            refine G.assignB rfl trivial rfl rfl rfl ?_
            refine G.nil ?_
            refine C.cond _ rfl ?_ ?_
            · intro hc5
              refine C.seq ?_
              refine C.region ?_
              refine G.moveP rfl trivial rfl rfl rfl ?_
              refine G.fieldAddr rfl trivial rfl rfl Try.underlying32 rfl I2 rfl rfl ?_
              refine G.loadAt (by first | exact .here | exact .next .here | exact .next (.next .here) | exact .next (.next (.next .here)) | exact .next (.next (.next (.next .here))) | exact .next (.next (.next (.next (.next .here)))) | exact .next (.next (.next (.next (.next (.next .here))))) | exact .next (.next (.next (.next (.next (.next (.next .here)))))) | exact .in1 | exact .next .in1 | exact .next (.next .in1) | exact .next (.next (.next .in1)) | exact .next (.next (.next (.next .in1))) | exact .in2 | exact .next .in2 | exact .next (.next .in2) | exact .next (.next (.next .in2)) | exact .next (.next (.next (.next .in2))) | exact .app .here | exact .app (.next .here) | exact .app (.next (.next .here)) | exact .app (.next (.next (.next .here))) | exact .app (.next (.next (.next (.next .here)))) | exact .app (.next (.next (.next (.next (.next .here))))) | exact .app (.next (.next (.next (.next (.next (.next .here)))))) | exact .app (.next (.next (.next (.next (.next (.next (.next .here))))))) | exact .app .in1 | exact .app .in2 | exact .app (.next .in1) | exact .next (.app .in1) | exact .next (.next (.app .in1)) | exact .next (.app .here) | exact .next (.next (.app .here)) | exact .next (.next (.next (.app .here))) | exact .next (.next (.next (.next (.app .here))))) rfl trivial rfl rfl Try.underlying2 rfl rfl (by rfl) ?_
              refine G.call E12 rfl rfl trivial rfl rfl (clear_spec W0 _ bw g i s1 s2 s3 hw tx) rfl ?_
              rintro e L2 ⟨s4, s5, s6, hw2, rfl, rfl⟩
              refine G.nil ?_
              refine C.region ?_
              refine G.moveP rfl trivial rfl rfl rfl ?_
              refine G.fieldAddr rfl trivial rfl rfl Try.underlying32 rfl I2 rfl rfl ?_
              refine G.loadAt (by first | exact .here | exact .next .here | exact .next (.next .here) | exact .next (.next (.next .here)) | exact .next (.next (.next (.next .here))) | exact .next (.next (.next (.next (.next .here)))) | exact .next (.next (.next (.next (.next (.next .here))))) | exact .next (.next (.next (.next (.next (.next (.next .here)))))) | exact .in1 | exact .next .in1 | exact .next (.next .in1) | exact .next (.next (.next .in1)) | exact .next (.next (.next (.next .in1))) | exact .in2 | exact .next .in2 | exact .next (.next .in2) | exact .next (.next (.next .in2)) | exact .next (.next (.next (.next .in2))) | exact .app .here | exact .app (.next .here) | exact .app (.next (.next .here)) | exact .app (.next (.next (.next .here))) | exact .app (.next (.next (.next (.next .here)))) | exact .app (.next (.next (.next (.next (.next .here))))) | exact .app (.next (.next (.next (.next (.next (.next .here)))))) | exact .app (.next (.next (.next (.next (.next (.next (.next .here))))))) | exact .app .in1 | exact .app .in2 | exact .app (.next .in1) | exact .next (.app .in1) | exact .next (.next (.app .in1)) | exact .next (.app .here) | exact .next (.next (.app .here)) | exact .next (.next (.next (.app .here))) | exact .next (.next (.next (.next (.app .here))))) rfl trivial rfl rfl Try.underlying2 rfl rfl (by rfl) ?_
              refine G.call E13 rfl rfl trivial rfl rfl (FnS.perm (rclear_spec W0 _ b14 es r1 r2 hq (by omega) tx) P32) rfl ?_
              rintro e L2 ⟨r3, r4, hq2, rfl, rfl⟩
              refine G.less (L' := s4 :: s5 :: s6 :: r3 :: r4 :: [(b7, .row (wopC (kd, tx, oa, oc, l)) 32 3)] :: []) (fun _ h => h.of_flat P23) ?_
              have hnl := noneOf_le tx es
              refine G.nil ?_
              exact ⟨_, _, s4, s5, s6, r3, r4, hsm.clear tx, by omega, hw2.more, hq2, rfl, rfl, rfl, rfl, rfl, rfl, rfl, rfl⟩
            · intro hc5
              refine C.skip ?_
              exact ⟨g, es, s1, s2, s3, r1, r2, hsm, by omega, hw.more, hq, rfl, rfl, rfl, rfl, rfl, rfl, rfl, rfl⟩
        ·
          rintro F D' L' ⟨g, es, s1, s2, s3, r1, r2, hsm, hel, hw, hq, h0, h4, h5, h6, h7, h8, rfl, rfl⟩
          refine C.fix (d := 0) h0 ?_
          refine C.fix (d := 4) h4 ?_
          refine C.fix (d := 5) h5 ?_
          refine C.fix (d := 6) h6 ?_
          refine C.fix (d := 7) h7 ?_
          refine C.fix (d := 8) h8 ?_
          refine C.seq ?_
          refine C.drawn mixed ([[(b7, .row (wopC (kd, tx, oa, oc, l)) 32 3)]]) [] (fun _ h => h.tail.tail.tail.tail.tail) ?_
          refine GA.pure (i := 0) (fun _ _ _ _ _ h => h) rfl (by kernel_rfl) trivial rfl rfl (Y.moveP rfl rfl) (#[true, false, false, false, false, false, false, false, false, false, false, false, false, false, false, false, false, false, false, false, false, false, false]) (by kernel_rfl) ?_
          refine GA.pure (i := 1) (fun _ _ _ _ _ h => h) rfl (by kernel_rfl) trivial rfl rfl (Y.fieldAddr rfl Try.underlying32 rfl I2 rfl rfl) (#[true, true, false, false, false, false, false, false, false, false, false, false, false, false, false, false, false, false, false, false, false, false, false]) (by kernel_rfl) ?_
          refine GA.read (i := 2) (fun _ _ _ _ _ h => h) rfl (by kernel_rfl) (by kernel_rfl) trivial rfl rfl (Y.loadAt (by first | exact .here | exact .next .here | exact .next (.next .here) | exact .next (.next (.next .here)) | exact .next (.next (.next (.next .here))) | exact .next (.next (.next (.next (.next .here)))) | exact .next (.next (.next (.next (.next (.next .here))))) | exact .next (.next (.next (.next (.next (.next (.next .here)))))) | exact .in1 | exact .next .in1 | exact .next (.next .in1) | exact .next (.next (.next .in1)) | exact .next (.next (.next (.next .in1))) | exact .in2 | exact .next .in2 | exact .next (.next .in2) | exact .next (.next (.next .in2)) | exact .next (.next (.next (.next .in2))) | exact .app .here | exact .app (.next .here) | exact .app (.next (.next .here)) | exact .app (.next (.next (.next .here))) | exact .app (.next (.next (.next (.next .here)))) | exact .app (.next (.next (.next (.next (.next .here))))) | exact .app (.next (.next (.next (.next (.next (.next .here)))))) | exact .app (.next (.next (.next (.next (.next (.next (.next .here))))))) | exact .app .in1 | exact .app .in2 | exact .app (.next .in1) | exact .next (.app .in1) | exact .next (.next (.app .in1)) | exact .next (.app .here) | exact .next (.next (.app .here)) | exact .next (.next (.next (.app .here))) | exact .next (.next (.next (.next (.app .here))))) rfl Try.underlying2 rfl rfl (by rfl)) (#[true, true, true, false, false, false, false, false, false, false, false, false, false, false, false, false, false, false, false, false, false, false, false]) (by kernel_rfl) ?_
          refine GA.pure (i := 3) (fun _ _ _ _ _ h => h) rfl (by kernel_rfl) trivial rfl rfl (Y.moveS rfl rfl) (#[true, true, true, true, false, false, false, false, false, false, false, false, false, false, false, false, false, false, false, false, false, false, false]) (by kernel_rfl) ?_
          refine GA.pure (i := 5) (fun _ _ _ _ _ h => h) rfl (by kernel_rfl) trivial rfl rfl (Y.moveP rfl rfl) (#[true, true, true, true, false, true, false, false, false, false, false, false, false, false, false, false, false, false, false, false, false, false, false]) (by kernel_rfl) ?_
          refine GA.pure (i := 6) (fun _ _ _ _ _ h => h) rfl (by kernel_rfl) trivial rfl rfl (Y.fieldAddr rfl Try.underlying32 rfl I2 rfl rfl) (#[true, true, true, true, false, true, true, false, false, false, false, false, false, false, false, false, false, false, false, false, false, false, false]) (by kernel_rfl) ?_
          refine GA.read (i := 7) (fun _ _ _ _ _ h => h) rfl (by kernel_rfl) (by kernel_rfl) trivial rfl rfl (Y.loadAt (by first | exact .here | exact .next .here | exact .next (.next .here) | exact .next (.next (.next .here)) | exact .next (.next (.next (.next .here))) | exact .next (.next (.next (.next (.next .here)))) | exact .next (.next (.next (.next (.next (.next .here))))) | exact .next (.next (.next (.next (.next (.next (.next .here)))))) | exact .in1 | exact .next .in1 | exact .next (.next .in1) | exact .next (.next (.next .in1)) | exact .next (.next (.next (.next .in1))) | exact .in2 | exact .next .in2 | exact .next (.next .in2) | exact .next (.next (.next .in2)) | exact .next (.next (.next (.next .in2))) | exact .app .here | exact .app (.next .here) | exact .app (.next (.next .here)) | exact .app (.next (.next (.next .here))) | exact .app (.next (.next (.next (.next .here)))) | exact .app (.next (.next (.next (.next (.next .here))))) | exact .app (.next (.next (.next (.next (.next (.next .here)))))) | exact .app (.next (.next (.next (.next (.next (.next (.next .here))))))) | exact .app .in1 | exact .app .in2 | exact .app (.next .in1) | exact .next (.app .in1) | exact .next (.next (.app .in1)) | exact .next (.app .here) | exact .next (.next (.app .here)) | exact .next (.next (.next (.app .here))) | exact .next (.next (.next (.next (.app .here))))) rfl Try.underlying2 rfl rfl (by rfl)) (#[true, true, true, true, false, true, true, true, false, false, false, false, false, false, false, false, false, false, false, false, false, false, false]) (by kernel_rfl) ?_
          refine GA.pure (i := 8) (fun _ _ _ _ _ h => h) rfl (by kernel_rfl) trivial rfl rfl (Y.moveS rfl rfl) (#[true, true, true, true, false, true, true, true, true, false, false, false, false, false, false, false, false, false, false, false, false, false, false]) (by kernel_rfl) ?_
          refine GA.one (i := 4) rfl (by kernel_rfl) (#[true, true, true, true, true, true, true, true, true, false, false, false, false, false, false, false, false, false, false, false, false, false, false]) (by kernel_rfl) ?_
          refine G.call E14 rfl rfl trivial rfl rfl (round_spec W0 _ bw g (i + 1) s1 s2 s3 hw (by omega) tx oa oc xs (by omega) (hxr _)) rfl ?_
          rintro e L2 ⟨rfl, bb, hb1, rfl⟩
          refine G.nil ?_
          refine ⟨fun _ _ h => h.tail.tail.tail.tail.tail, ?_⟩
          refine GA.one (i := 9) rfl (by kernel_rfl) (#[true, true, true, true, true, true, true, true, true, true, false, false, false, false, false, false, false, false, false, false, false, false, false]) (by kernel_rfl) ?_
          refine G.call E15 rfl rfl trivial rfl rfl (FnS.read (rround_spec W0 _ b14 es r1 r2 hq (by omega) tx oa oc xs (by omega) (hxr _)) P32) rfl ?_
          rintro e L2 ⟨rfl, bb2, hb2, rfl⟩
          obtain rfl : bb = bb2 := Bool.eq_iff_iff.2 (hb1.trans ((hsm.rch xs tx).trans hb2.symm))
          refine G.nil ?_
          refine ⟨fun _ _ h => h.tail.tail.tail.tail.tail, ?_⟩
          refine GA.pure (i := 10) (fun _ _ _ _ _ h => h) rfl (by kernel_rfl) trivial rfl rfl (Y.boolNe rfl Try.underlying4 rfl rfl) (#[true, true, true, true, true, true, true, true, true, true, true, false, false, false, false, false, false, false, false, false, false, false, false]) (by kernel_rfl) ?_
          refine GA.fix (d := 71) (v := .bool false) (by show Value.bool _ = _; simp) ?_
          refine GA.pure (i := 11) (fun _ _ _ _ _ h => h) rfl (by kernel_rfl) trivial rfl rfl (Y.moveB rfl rfl) (#[true, true, true, true, true, true, true, true, true, true, true, true, false, false, false, false, false, false, false, false, false, false, false]) (by kernel_rfl) ?_
          refine GA.pure (i := 12) (fun _ _ _ _ _ h => h) rfl (by kernel_rfl) ⟨_, rfl, rfl, rfl⟩ rfl rfl (Y.moveP rfl rfl) (#[true, true, true, true, true, true, true, true, true, true, true, true, true, false, false, false, false, false, false, false, false, false, false]) (by kernel_rfl) ?_
          refine GA.pure (i := 13) (fun _ _ _ _ _ h => h) rfl (by kernel_rfl) ⟨_, rfl, rfl, rfl⟩ rfl rfl (Y.fieldAddr rfl Try.underlying32 rfl I2 rfl rfl) (#[true, true, true, true, true, true, true, true, true, true, true, true, true, true, false, false, false, false, false, false, false, false, false]) (by kernel_rfl) ?_
          refine GA.read (i := 14) (fun _ _ _ _ _ h => h) rfl (by kernel_rfl) (by kernel_rfl) ⟨_, rfl, rfl, rfl⟩ rfl rfl (Y.loadAt (by first | exact .here | exact .next .here | exact .next (.next .here) | exact .next (.next (.next .here)) | exact .next (.next (.next (.next .here))) | exact .next (.next (.next (.next (.next .here)))) | exact .next (.next (.next (.next (.next (.next .here))))) | exact .next (.next (.next (.next (.next (.next (.next .here)))))) | exact .in1 | exact .next .in1 | exact .next (.next .in1) | exact .next (.next (.next .in1)) | exact .next (.next (.next (.next .in1))) | exact .in2 | exact .next .in2 | exact .next (.next .in2) | exact .next (.next (.next .in2)) | exact .next (.next (.next (.next .in2))) | exact .app .here | exact .app (.next .here) | exact .app (.next (.next .here)) | exact .app (.next (.next (.next .here))) | exact .app (.next (.next (.next (.next .here)))) | exact .app (.next (.next (.next (.next (.next .here))))) | exact .app (.next (.next (.next (.next (.next (.next .here)))))) | exact .app (.next (.next (.next (.next (.next (.next (.next .here))))))) | exact .app .in1 | exact .app .in2 | exact .app (.next .in1) | exact .next (.app .in1) | exact .next (.next (.app .in1)) | exact .next (.app .here) | exact .next (.next (.app .here)) | exact .next (.next (.next (.app .here))) | exact .next (.next (.next (.next (.app .here))))) rfl Try.underlying2 rfl rfl (by rfl)) (#[true, true, true, true, true, true, true, true, true, true, true, true, true, true, true, false, false, false, false, false, false, false, false]) (by kernel_rfl) ?_
          refine GA.pure (i := 16) (fun _ _ _ _ _ h => h) rfl (by kernel_rfl) ⟨_, rfl, rfl, rfl⟩ rfl rfl (Y.moveP rfl rfl) (#[true, true, true, true, true, true, true, true, true, true, true, true, true, true, true, false, true, false, false, false, false, false, false]) (by kernel_rfl) ?_
          refine GA.pure (i := 17) (fun _ _ _ _ _ h => h) rfl (by kernel_rfl) ⟨_, rfl, rfl, rfl⟩ rfl rfl (Y.fieldAddr rfl Try.underlying32 rfl I2 rfl rfl) (#[true, true, true, true, true, true, true, true, true, true, true, true, true, true, true, false, true, true, false, false, false, false, false]) (by kernel_rfl) ?_
          refine GA.read (i := 18) (fun _ _ _ _ _ h => h) rfl (by kernel_rfl) (by kernel_rfl) ⟨_, rfl, rfl, rfl⟩ rfl rfl (Y.loadAt (by first | exact .here | exact .next .here | exact .next (.next .here) | exact .next (.next (.next .here)) | exact .next (.next (.next (.next .here))) | exact .next (.next (.next (.next (.next .here)))) | exact .next (.next (.next (.next (.next (.next .here))))) | exact .next (.next (.next (.next (.next (.next (.next .here)))))) | exact .in1 | exact .next .in1 | exact .next (.next .in1) | exact .next (.next (.next .in1)) | exact .next (.next (.next (.next .in1))) | exact .in2 | exact .next .in2 | exact .next (.next .in2) | exact .next (.next (.next .in2)) | exact .next (.next (.next (.next .in2))) | exact .app .here | exact .app (.next .here) | exact .app (.next (.next .here)) | exact .app (.next (.next (.next .here))) | exact .app (.next (.next (.next (.next .here)))) | exact .app (.next (.next (.next (.next (.next .here))))) | exact .app (.next (.next (.next (.next (.next (.next .here)))))) | exact .app (.next (.next (.next (.next (.next (.next (.next .here))))))) | exact .app .in1 | exact .app .in2 | exact .app (.next .in1) | exact .next (.app .in1) | exact .next (.next (.app .in1)) | exact .next (.app .here) | exact .next (.next (.app .here)) | exact .next (.next (.next (.app .here))) | exact .next (.next (.next (.next (.app .here))))) rfl Try.underlying2 rfl rfl (by rfl)) (#[true, true, true, true, true, true, true, true, true, true, true, true, true, true, true, false, true, true, true, false, false, false, false]) (by kernel_rfl) ?_
          refine GA.one (i := 15) rfl (by kernel_rfl) (#[true, true, true, true, true, true, true, true, true, true, true, true, true, true, true, true, true, true, true, false, false, false, false]) (by kernel_rfl) ?_
          refine G.call E17 rfl rfl ⟨_, rfl, rfl, rfl⟩ rfl rfl (on_val W0 _ bw g (i + 1) s1 s2 s3 hw (by omega) tx (insAll (gE es tx)) (hsm tx)) rfl ?_
          rintro e L2 ⟨a76, c76, s76, hv76, rfl, rfl⟩
          have hl76 : (g tx).length ≤ 1000 := hw.lens tx
          rw [hsm tx] at hl76
          refine G.nil ?_
          refine ⟨fun _ _ h => h.tail.tail.tail.tail.tail.tail, ?_⟩
          refine GA.one (i := 19) rfl (by kernel_rfl) (#[true, true, true, true, true, true, true, true, true, true, true, true, true, true, true, true, true, true, true, true, false, false, false]) (by kernel_rfl) ?_
          refine G.call E18 rfl rfl ⟨_, rfl, rfl, rfl⟩ rfl rfl (FnS.perm (ron_spec W0 _ b14 es r1 r2 hq (by omega) tx) P42) rfl ?_
          rintro e L2 ⟨v80, s80, hv80, rfl, rfl⟩
          obtain ⟨a80, c80, rfl, hr80⟩ := hv80.form
          refine G.nil ?_
          refine ⟨fun _ _ h => h.tail.tail.tail.tail.tail.tail.tail, ?_⟩
          refine GA.one (i := 20) rfl (by kernel_rfl) (#[true, true, true, true, true, true, true, true, true, true, true, true, true, true, true, true, true, true, true, true, true, false, false]) (by kernel_rfl) ?_
          refine G.call E16 rfl rfl ⟨_, rfl, rfl, rfl⟩ rfl rfl (eqNums_spec W0 _ a76 a80 c76 c80 (insAll (gE es tx)) (insAll (gE es tx)) (by obtain ⟨az2, cz2, hae, hrd⟩ := hv76.form; cases hae; exact (hrd W0 _).cons.cons.cons) (hr80 W0 _) (by omega) rfl) rfl ?_
          rintro e L2 ⟨rfl, rfl⟩
          refine G.nil ?_
          refine ⟨fun _ _ h => h.tail.tail.tail.tail.tail.tail.tail, ?_⟩
          first | refine GA.pure (i := 21) (fun _ _ _ _ _ h => h) rfl (by kernel_rfl) ⟨_, rfl, rfl, rfl⟩ rfl rfl (Y.notD rfl rfl) (#[true, true, true, true, true, true, true, true, true, true, true, true, true, true, true, true, true, true, true, true, true, true, false]) (by kernel_rfl) ?_ | refine GA.pure (i := 21) (fun _ _ _ _ _ h => h) rfl (by kernel_rfl) ⟨_, rfl, rfl, rfl⟩ rfl rfl (Y.not rfl rfl) (#[true, true, true, true, true, true, true, true, true, true, true, true, true, true, true, true, true, true, true, true, true, true, false]) (by kernel_rfl) ?_
          first | refine GA.pure (i := 22) (fun _ _ _ _ _ h => h) rfl (by kernel_rfl) trivial rfl rfl (Y.pickT rfl rfl rfl) (#[true, true, true, true, true, true, true, true, true, true, true, true, true, true, true, true, true, true, true, true, true, true, true]) (by kernel_rfl) ?_ | refine GA.pure (i := 22) (fun _ _ _ _ _ h => h) rfl (by kernel_rfl) trivial rfl rfl (Y.pickF rfl rfl rfl) (#[true, true, true, true, true, true, true, true, true, true, true, true, true, true, true, true, true, true, true, true, true, true, true]) (by kernel_rfl) ?_
          refine GA.done (by kernel_rfl) ?_
          refine C.condF rfl ?_
          refine C.skip ?_
          refine C.region ?_
          refine G.moveI rfl trivial rfl rfl rfl ?_
          refine G.addN (j := 1) rfl trivial rfl rfl rfl rfl (by omega) ?_
          refine G.assignI rfl trivial rfl rfl rfl ?_
          refine G.less (L' := s1 :: s2 :: s3 :: r1 :: r2 :: []) (fun _ h => (h.tail.of_flat P33).fewer (by simp)) ?_
          refine G.nil ?_
          exact ⟨ops.length - (i + 1) + 0, by omega, i + 1, g, es, s1, s2, s3, r1, r2, rfl, by omega, by omega, hsm, by omega, hw, hq, rfl, rfl, rfl, rfl, rfl, rfl⟩
    · intro hc1
      refine C.exit ?_
      refine C.seq ?_
      refine C.region ?_
      refine G.assignB rfl trivial rfl rfl rfl ?_
      refine G.nil ?_
      refine C.ret ?_
      -- end g19Tc1F
      exact ⟨rfl, _, Res.of (rs := [.tmp 2]) rfl rfl, rfl⟩
  · intro hg19
    refine G.skip rfl rfl rfl rfl rfl rfl ?_
    refine G.skip rfl rfl rfl rfl rfl rfl ?_
    first | refine G.pickT rfl trivial rfl rfl rfl rfl ?_ | refine G.pickF rfl trivial rfl rfl rfl rfl ?_
    refine G.nil ?_
    refine C.condF rfl ?_
    refine C.exit ?_
    refine C.seq ?_
    refine C.region ?_
    refine G.assignB rfl trivial rfl rfl rfl ?_
    refine G.nil ?_
    refine C.ret ?_
    -- end g19F
    exact ⟨rfl, _, Res.of (rs := [.tmp 2]) rfl rfl, rfl⟩
end laws
end Go.Proofs.Ytfenbeiengnpbaa
