/-
  Transactions: TxnAll walked.
-/
import Derived.Test.YtomiidlbfcfpiaaTx4
namespace Go.Proofs.Ytomiidlbfcfpiaa
open Go Go.SL Go.RowKit Go.Sort

theorem PX {a b o : Seg} {L : List Seg} : (o :: a :: b :: L).flatten.Perm (a :: b :: o :: L).flatten := (List.perm_append_comm_assoc [o] [a, b] L).flatten
theorem begin_up {ids : List Int} (h : ids.Pairwise (· < ·)) (id : Int) : (if beginC ids id = 0 then insL ids id else ids).Pairwise (· < ·) := by
  split
  · exact insL_rising id h
  · exact h
theorem begin_le (ids : List Int) (id : Int) : (if beginC ids id = 0 then insL ids id else ids).length ≤ ids.length + 1 := by
  split
  · exact insL_length ids id
  · omega
section laws
variable (W0 : World)
theorem tall_walk (a : Option Addr) (len cap : Nat) (ops : List LOp) (h : LOps W0 a len cap ops) : FnS Try.prog W0 3 #[.slice a len cap] [] (fun e _ => e = .returned (.bool true)) := by
  obtain ⟨rfl, hlc, hcap, hr, hwf⟩ := h
  have hmax : maxLen ≤ 9223372036854775807 := by decide
  refine FnS.of (args := [.slice a ops.length cap]) Try.func3 rfl rfl ?_
  refine C.seq ?_
  refine C.region ?_
  refine G.assignB rfl trivial rfl rfl rfl ?_
  refine G.nil ?_
  refine C.seq ?_
  refine C.region ?_
  refine G.call E8 rfl rfl trivial rfl rfl (tbegun_spec W0 _) rfl ?_
  rintro e L2 ⟨rfl, rfl⟩
  refine G.assignB rfl trivial rfl rfl rfl ?_
  refine G.nil ?_
  refine C.seq ?_
  refine C.seq ?_
  refine C.region ?_
  refine G.moveB rfl trivial rfl rfl rfl ?_
  first | refine G.notD rfl trivial rfl rfl rfl ?_ | refine G.not rfl trivial rfl rfl rfl ?_
  refine G.nil ?_
  refine C.condF rfl ?_
  refine C.skip ?_
  refine C.seq ?_
  refine C.region ?_
  refine G.call E9 rfl rfl trivial rfl rfl (tnew_spec W0 _) rfl ?_
  rintro e L2 ⟨bt, s1, h1s, rfl, rfl⟩
  refine G.assignP rfl trivial rfl rfl rfl ?_
  refine G.nil ?_
  refine C.seq ?_
  refine C.region ?_
  refine G.buildL (cs := [.slice none 0 0, .slice none 0 0, .slice none 0 0]) rfl trivial rfl rfl Try.underlying35 I35 B35 rfl rfl ?_
  refine G.boxG rfl trivial rfl rfl rfl ?_
  intro b13
  refine G.assignP rfl trivial rfl rfl rfl ?_
  refine G.less (L' := s1 :: ([] ++ ([(b13, .row [.slice none 0 0, .slice none 0 0, .slice none 0 0] 35 3)] ++ ([] ++ []))) :: []) (fun _ h => h.perm2.of_flat (by simp)) ?_
  refine G.nil ?_
  refine C.seq ?_
  refine C.seq ?_
  refine C.region ?_
  refine G.assignI rfl trivial rfl rfl rfl ?_
  refine G.nil ?_
  refine C.block ?_
  refine C.loop (fun m F D' L' => ∃ (i : Nat) (ids : List Int) (ls : List One) (g : Int → List Int) (es : List Edge) (s r : Seg), m = ops.length - i + 0 ∧ i ≤ ops.length ∧ i ≤ 80 ∧ ids.Pairwise (· < ·) ∧ ids.length ≤ i ∧ ls.length ≤ i ∧ es.length ≤ 80 * i ∧ (∀ y ∈ ls, Kept y) ∧ Same g es ∧ TxIs bt ids ls g i s ∧ RtIs b13 ids ls es r ∧ F 0 = .slice a ops.length cap ∧ F 4 = .pointer (some ⟨bt, 0, none⟩) ∧ F 5 = .pointer (some ⟨b13, 0, none⟩) ∧ F 6 = .int .i64 (i : Int) ∧ D' = [] ∧ s :: r :: [] = L') ⟨_, ⟨0, [], [], _, [], s1, _, rfl, by omega, by omega, List.Pairwise.nil, by simp, by simp, by simp, by simp, fun k => rfl, h1s, ⟨_, _, _, [], [], [], OwnS.nil _ _, OwnS.nil _ _, OwnS.nil _ _, rfl⟩, rfl, rfl, rfl, rfl, rfl, rfl⟩⟩ ?_
  rintro m F D' L' ⟨i, ids, ls, g, es, s, r, rfl, hi, hi80, hup, hil, hll, hel, hkp, hsm, hs, hq, h0, h4, h5, h6, rfl, rfl⟩
  refine C.fix (d := 0) h0 ?_
  refine C.fix (d := 4) h4 ?_
  refine C.fix (d := 5) h5 ?_
  refine C.fix (d := 6) h6 ?_
  refine C.seq ?_
  refine C.seq ?_
  refine C.region ?_
  refine G.moveI rfl trivial rfl rfl rfl ?_
  refine G.moveS rfl trivial rfl rfl rfl ?_
  refine G.lenSlice rfl trivial rfl rfl Try.underlying22 rfl ?_
  refine G.bin rfl trivial rfl rfl rfl rfl rfl ?_
  refine G.moveB rfl trivial rfl rfl rfl ?_
  refine G.fork (t := 18) _ rfl ?_ ?_
  · intro hg18
    refine G.moveI rfl ⟨_, rfl, rfl, rfl⟩ rfl rfl rfl ?_
    refine G.bin rfl ⟨_, rfl, rfl, rfl⟩ rfl rfl rfl rfl rfl ?_
    first | refine G.pickT rfl trivial rfl rfl rfl rfl ?_ | refine G.pickF rfl trivial rfl rfl rfl rfl ?_
    refine G.nil ?_
    refine C.cond _ rfl ?_ ?_
    · intro hc1
      have hlt : i < ops.length := by first | assumption | omega
      obtain ⟨p, o, rfl, _⟩ := (hr []).some_ (by rw [chunk_length (k := 4) (fun _ _ => rfl)]; omega)
      have hms : Modes ls := fun y hy => ⟨(hkp y hy).1, (hkp y hy).2.1⟩
      refine C.skip ?_
      refine C.seq ?_
      refine C.block ?_
      refine C.seq ?_
      refine C.region ?_
      refine G.moveS rfl trivial rfl rfl rfl ?_
      refine G.moveI rfl trivial rfl rfl rfl ?_
      refine G.indexAddr rfl trivial rfl rfl Try.underlying22 I37 rfl rfl (by omega) ?_
      refine G.loadAgg (opC ops[i]) rfl trivial rfl rfl Try.underlying37 rfl I37 rfl rfl (cellR hr hlt) ?_
      generalize ops[i] = op
      obtain ⟨kd, mo, tx, ky⟩ := op
      refine G.allocC (cs := [(.int .i64 0), (.int .i64 0), (.int .i64 0), (.string ByteArray.empty)]) rfl trivial rfl rfl I37 rfl ?_
      intro b7
      refine G.stRow .here rfl trivial rfl I37 rfl rfl rfl (by rfl) (opC_ok _) ?_
      refine G.nil ?_
      refine C.seq ?_
      refine C.region ?_
      refine G.fieldAddr rfl trivial rfl rfl Try.underlying37 rfl I9 rfl rfl ?_
      refine G.loadAt (by first | exact .here | exact .next .here | exact .next (.next .here) | exact .next (.next (.next .here)) | exact .next (.next (.next (.next .here))) | exact .next (.next (.next (.next (.next .here)))) | exact .next (.next (.next (.next (.next (.next .here))))) | exact .next (.next (.next (.next (.next (.next (.next .here)))))) | exact .in1 | exact .next .in1 | exact .next (.next .in1) | exact .next (.next (.next .in1)) | exact .next (.next (.next (.next .in1))) | exact .in2 | exact .next .in2 | exact .next (.next .in2) | exact .next (.next (.next .in2)) | exact .next (.next (.next (.next .in2))) | exact .app .here | exact .app (.next .here) | exact .app (.next (.next .here)) | exact .app (.next (.next (.next .here))) | exact .app (.next (.next (.next (.next .here)))) | exact .app (.next (.next (.next (.next (.next .here))))) | exact .app (.next (.next (.next (.next (.next (.next .here)))))) | exact .app (.next (.next (.next (.next (.next (.next (.next .here))))))) | exact .app .in1 | exact .app .in2 | exact .app (.next .in1) | exact .next (.app .in1) | exact .next (.next (.app .in1)) | exact .next (.app .here) | exact .next (.next (.app .here)) | exact .next (.next (.next (.app .here))) | exact .next (.next (.next (.next (.app .here))))) rfl trivial rfl rfl Try.underlying9 rfl rfl (by rfl) ?_
      refine G.call E10 rfl rfl trivial rfl rfl (cut_spec W0 _ ky 20) rfl ?_
      rintro e L2 ⟨rfl, ks, rfl⟩
      refine G.fieldAddr rfl trivial rfl rfl Try.underlying37 rfl I9 rfl rfl ?_
      refine G.store (v := .string _) (by first | exact .here | exact .next .here | exact .next (.next .here) | exact .next (.next (.next .here)) | exact .next (.next (.next (.next .here))) | exact .next (.next (.next (.next (.next .here)))) | exact .next (.next (.next (.next (.next (.next .here))))) | exact .next (.next (.next (.next (.next (.next (.next .here)))))) | exact .in1 | exact .next .in1 | exact .next (.next .in1) | exact .next (.next (.next .in1)) | exact .next (.next (.next (.next .in1))) | exact .in2 | exact .next .in2 | exact .next (.next .in2) | exact .next (.next (.next .in2)) | exact .next (.next (.next (.next .in2))) | exact .app .here | exact .app (.next .here) | exact .app (.next (.next .here)) | exact .app (.next (.next (.next .here))) | exact .app (.next (.next (.next (.next .here)))) | exact .app (.next (.next (.next (.next (.next .here))))) | exact .app (.next (.next (.next (.next (.next (.next .here)))))) | exact .app (.next (.next (.next (.next (.next (.next (.next .here))))))) | exact .app .in1 | exact .app .in2 | exact .app (.next .in1) | exact .next (.app .in1) | exact .next (.next (.app .in1)) | exact .next (.app .here) | exact .next (.next (.app .here)) | exact .next (.next (.next (.app .here))) | exact .next (.next (.next (.next (.app .here))))) rfl trivial rfl I9 rfl rfl rfl (by show 3 < 4; decide) _ (by first | (simp only [List.set_cons_succ, List.set_cons_zero]; done) | (simp only [List.set_cons_succ, List.set_cons_zero]; exact rfl) | exact rfl) ?_
      refine G.less (L' := s :: r :: [(b7, .row (opC (kd, mo, tx, ks)) 37 4)] :: []) (fun _ h => h.of_flat PX) ?_
      refine G.nil ?_
      refine C.cut (fun F D' L' => ∃ (ids : List Int) (ls : List One) (g : Int → List Int) (es : List Edge) (s r : Seg), ids.Pairwise (· < ·) ∧ ids.length ≤ i + 1 ∧ ls.length ≤ i + 1 ∧ es.length ≤ 80 * (i + 1) ∧ (∀ y ∈ ls, Kept y) ∧ Same g es ∧ TxIs bt ids ls g (i + 1) s ∧ RtIs b13 ids ls es r ∧ F 0 = .slice (some ⟨p, o, none⟩) ops.length cap ∧ F 4 = .pointer (some ⟨bt, 0, none⟩) ∧ F 5 = .pointer (some ⟨b13, 0, none⟩) ∧ F 6 = .int .i64 (i : Int) ∧ F 7 = .pointer (some ⟨b7, 0, none⟩) ∧ D' = [] ∧ s :: r :: [(b7, .row (opC (kd, mo, tx, ks)) 37 4)] :: [] = L') ?_ ?_
      ·
        refine C.seq ?_
        refine C.region ?_
        refine G.fieldAddr rfl trivial rfl rfl Try.underlying37 rfl I3 rfl rfl ?_
        refine G.loadAt (by first | exact .here | exact .next .here | exact .next (.next .here) | exact .next (.next (.next .here)) | exact .next (.next (.next (.next .here))) | exact .next (.next (.next (.next (.next .here)))) | exact .next (.next (.next (.next (.next (.next .here))))) | exact .next (.next (.next (.next (.next (.next (.next .here)))))) | exact .in1 | exact .next .in1 | exact .next (.next .in1) | exact .next (.next (.next .in1)) | exact .next (.next (.next (.next .in1))) | exact .in2 | exact .next .in2 | exact .next (.next .in2) | exact .next (.next (.next .in2)) | exact .next (.next (.next (.next .in2))) | exact .app .here | exact .app (.next .here) | exact .app (.next (.next .here)) | exact .app (.next (.next (.next .here))) | exact .app (.next (.next (.next (.next .here)))) | exact .app (.next (.next (.next (.next (.next .here))))) | exact .app (.next (.next (.next (.next (.next (.next .here)))))) | exact .app (.next (.next (.next (.next (.next (.next (.next .here))))))) | exact .app .in1 | exact .app .in2 | exact .app (.next .in1) | exact .next (.app .in1) | exact .next (.next (.app .in1)) | exact .next (.app .here) | exact .next (.next (.app .here)) | exact .next (.next (.next (.app .here))) | exact .next (.next (.next (.next (.app .here))))) rfl trivial rfl rfl Try.underlying3 rfl rfl (by rfl) ?_
        refine G.nil ?_
        refine C.block ?_
        refine C.seq ?_
        refine C.region ?_
        refine G.bin rfl trivial rfl rfl rfl rfl rfl ?_
        refine G.assignB rfl trivial rfl rfl rfl ?_
        refine G.nil ?_
        refine C.cond _ rfl ?_ ?_
        · intro hc2
          refine C.seq ?_
          refine C.drawn mixed ([[(b7, .row (opC (kd, mo, tx, ks)) 37 4)]]) [] (fun _ h => h.tail.tail) ?_
          refine GA.pure (i := 0) (fun _ _ _ _ _ h => h) rfl (by kernel_rfl) trivial rfl rfl (Y.moveP rfl rfl) (#[true, false, false, false, false, false, false, false, false]) (by kernel_rfl) ?_
          refine GA.pure (i := 1) (fun _ _ _ _ _ h => h) rfl (by kernel_rfl) trivial rfl rfl (Y.fieldAddr rfl Try.underlying37 rfl I2 rfl rfl) (#[true, true, false, false, false, false, false, false, false]) (by kernel_rfl) ?_
          refine GA.read (i := 2) (fun _ _ _ _ _ h => h) rfl (by kernel_rfl) (by kernel_rfl) trivial rfl rfl (Y.loadAt (by first | exact .here | exact .next .here | exact .next (.next .here) | exact .next (.next (.next .here)) | exact .next (.next (.next (.next .here))) | exact .next (.next (.next (.next (.next .here)))) | exact .next (.next (.next (.next (.next (.next .here))))) | exact .next (.next (.next (.next (.next (.next (.next .here)))))) | exact .in1 | exact .next .in1 | exact .next (.next .in1) | exact .next (.next (.next .in1)) | exact .next (.next (.next (.next .in1))) | exact .in2 | exact .next .in2 | exact .next (.next .in2) | exact .next (.next (.next .in2)) | exact .next (.next (.next (.next .in2))) | exact .app .here | exact .app (.next .here) | exact .app (.next (.next .here)) | exact .app (.next (.next (.next .here))) | exact .app (.next (.next (.next (.next .here)))) | exact .app (.next (.next (.next (.next (.next .here))))) | exact .app (.next (.next (.next (.next (.next (.next .here)))))) | exact .app (.next (.next (.next (.next (.next (.next (.next .here))))))) | exact .app .in1 | exact .app .in2 | exact .app (.next .in1) | exact .next (.app .in1) | exact .next (.next (.app .in1)) | exact .next (.app .here) | exact .next (.next (.app .here)) | exact .next (.next (.next (.app .here))) | exact .next (.next (.next (.next (.app .here))))) rfl Try.underlying2 rfl rfl (by rfl)) (#[true, true, true, false, false, false, false, false, false]) (by kernel_rfl) ?_
          refine GA.pure (i := 4) (fun _ _ _ _ _ h => h) rfl (by kernel_rfl) trivial rfl rfl (Y.moveP rfl rfl) (#[true, true, true, false, true, false, false, false, false]) (by kernel_rfl) ?_
          refine GA.pure (i := 5) (fun _ _ _ _ _ h => h) rfl (by kernel_rfl) trivial rfl rfl (Y.fieldAddr rfl Try.underlying37 rfl I2 rfl rfl) (#[true, true, true, false, true, true, false, false, false]) (by kernel_rfl) ?_
          refine GA.read (i := 6) (fun _ _ _ _ _ h => h) rfl (by kernel_rfl) (by kernel_rfl) trivial rfl rfl (Y.loadAt (by first | exact .here | exact .next .here | exact .next (.next .here) | exact .next (.next (.next .here)) | exact .next (.next (.next (.next .here))) | exact .next (.next (.next (.next (.next .here)))) | exact .next (.next (.next (.next (.next (.next .here))))) | exact .next (.next (.next (.next (.next (.next (.next .here)))))) | exact .in1 | exact .next .in1 | exact .next (.next .in1) | exact .next (.next (.next .in1)) | exact .next (.next (.next (.next .in1))) | exact .in2 | exact .next .in2 | exact .next (.next .in2) | exact .next (.next (.next .in2)) | exact .next (.next (.next (.next .in2))) | exact .app .here | exact .app (.next .here) | exact .app (.next (.next .here)) | exact .app (.next (.next (.next .here))) | exact .app (.next (.next (.next (.next .here)))) | exact .app (.next (.next (.next (.next (.next .here))))) | exact .app (.next (.next (.next (.next (.next (.next .here)))))) | exact .app (.next (.next (.next (.next (.next (.next (.next .here))))))) | exact .app .in1 | exact .app .in2 | exact .app (.next .in1) | exact .next (.app .in1) | exact .next (.next (.app .in1)) | exact .next (.app .here) | exact .next (.next (.app .here)) | exact .next (.next (.next (.app .here))) | exact .next (.next (.next (.next (.app .here))))) rfl Try.underlying2 rfl rfl (by rfl)) (#[true, true, true, false, true, true, true, false, false]) (by kernel_rfl) ?_
          refine GA.one (i := 3) rfl (by kernel_rfl) (#[true, true, true, true, true, true, true, false, false]) (by kernel_rfl) ?_
          refine G.call E11 rfl rfl trivial rfl rfl (tbegin_spec W0 bt _ ids ls g i s hs hup (by omega) tx) rfl ?_
          rintro e L2 ⟨s2, h2s, rfl, rfl⟩
          refine G.nil ?_
          refine ⟨fun _ _ h => h.tail.tail, ?_⟩
          refine GA.one (i := 7) rfl (by kernel_rfl) (#[true, true, true, true, true, true, true, true, false]) (by kernel_rfl) ?_
          refine G.call E12 rfl rfl trivial rfl rfl (FnS.perm (rtbegin_spec W0 b13 _ ids ls es r hq (by omega) tx) P2) rfl ?_
          rintro e L2 ⟨r2, hq2, rfl, rfl⟩
          refine G.less (fun _ h => h.perm2) ?_
          have hbu := begin_up hup tx
          have hbl := begin_le ids tx
          refine G.nil ?_
          refine ⟨fun _ _ h => h.tail.tail, ?_⟩
          refine GA.pure (i := 8) (fun _ _ _ _ _ h => h) rfl (by kernel_rfl) trivial rfl rfl (Y.bin rfl rfl rfl rfl) (#[true, true, true, true, true, true, true, true, true]) (by kernel_rfl) ?_
          refine GA.done (by kernel_rfl) ?_
          refine C.no rfl (by simp) ?_
          refine C.skip ?_
          exact ⟨_, ls, g, es, s2, r2, hbu, by omega, by omega, by omega, hkp, hsm, h2s.upto (by omega), hq2, rfl, rfl, rfl, rfl, rfl, rfl, rfl⟩
        · intro hc2
          refine C.seq ?_
          refine C.region ?_
          refine G.bin rfl trivial rfl rfl rfl rfl rfl ?_
          refine G.assignB rfl trivial rfl rfl rfl ?_
          refine G.nil ?_
          refine C.cond _ rfl ?_ ?_
          · intro hc4
            refine C.seq ?_
            refine C.drawn mixed ([[(b7, .row (opC (kd, mo, tx, ks)) 37 4)]]) [] (fun _ h => h.tail.tail) ?_
            refine GA.pure (i := 0) (fun _ _ _ _ _ h => h) rfl (by kernel_rfl) trivial rfl rfl (Y.moveP rfl rfl) (#[true, false, false, false, false, false, false, false, false, false, false, false, false, false, false, false, false]) (by kernel_rfl) ?_
            refine GA.pure (i := 1) (fun _ _ _ _ _ h => h) rfl (by kernel_rfl) trivial rfl rfl (Y.fieldAddr rfl Try.underlying37 rfl I2 rfl rfl) (#[true, true, false, false, false, false, false, false, false, false, false, false, false, false, false, false, false]) (by kernel_rfl) ?_
            refine GA.read (i := 2) (fun _ _ _ _ _ h => h) rfl (by kernel_rfl) (by kernel_rfl) trivial rfl rfl (Y.loadAt (by first | exact .here | exact .next .here | exact .next (.next .here) | exact .next (.next (.next .here)) | exact .next (.next (.next (.next .here))) | exact .next (.next (.next (.next (.next .here)))) | exact .next (.next (.next (.next (.next (.next .here))))) | exact .next (.next (.next (.next (.next (.next (.next .here)))))) | exact .in1 | exact .next .in1 | exact .next (.next .in1) | exact .next (.next (.next .in1)) | exact .next (.next (.next (.next .in1))) | exact .in2 | exact .next .in2 | exact .next (.next .in2) | exact .next (.next (.next .in2)) | exact .next (.next (.next (.next .in2))) | exact .app .here | exact .app (.next .here) | exact .app (.next (.next .here)) | exact .app (.next (.next (.next .here))) | exact .app (.next (.next (.next (.next .here)))) | exact .app (.next (.next (.next (.next (.next .here))))) | exact .app (.next (.next (.next (.next (.next (.next .here)))))) | exact .app (.next (.next (.next (.next (.next (.next (.next .here))))))) | exact .app .in1 | exact .app .in2 | exact .app (.next .in1) | exact .next (.app .in1) | exact .next (.next (.app .in1)) | exact .next (.app .here) | exact .next (.next (.app .here)) | exact .next (.next (.next (.app .here))) | exact .next (.next (.next (.next (.app .here))))) rfl Try.underlying2 rfl rfl (by rfl)) (#[true, true, true, false, false, false, false, false, false, false, false, false, false, false, false, false, false]) (by kernel_rfl) ?_
            refine GA.pure (i := 3) (fun _ _ _ _ _ h => h) rfl (by kernel_rfl) trivial rfl rfl (Y.fieldAddr rfl Try.underlying37 rfl I3 rfl rfl) (#[true, true, true, true, false, false, false, false, false, false, false, false, false, false, false, false, false]) (by kernel_rfl) ?_
            refine GA.read (i := 4) (fun _ _ _ _ _ h => h) rfl (by kernel_rfl) (by kernel_rfl) trivial rfl rfl (Y.loadAt (by first | exact .here | exact .next .here | exact .next (.next .here) | exact .next (.next (.next .here)) | exact .next (.next (.next (.next .here))) | exact .next (.next (.next (.next (.next .here)))) | exact .next (.next (.next (.next (.next (.next .here))))) | exact .next (.next (.next (.next (.next (.next (.next .here)))))) | exact .in1 | exact .next .in1 | exact .next (.next .in1) | exact .next (.next (.next .in1)) | exact .next (.next (.next (.next .in1))) | exact .in2 | exact .next .in2 | exact .next (.next .in2) | exact .next (.next (.next .in2)) | exact .next (.next (.next (.next .in2))) | exact .app .here | exact .app (.next .here) | exact .app (.next (.next .here)) | exact .app (.next (.next (.next .here))) | exact .app (.next (.next (.next (.next .here)))) | exact .app (.next (.next (.next (.next (.next .here))))) | exact .app (.next (.next (.next (.next (.next (.next .here)))))) | exact .app (.next (.next (.next (.next (.next (.next (.next .here))))))) | exact .app .in1 | exact .app .in2 | exact .app (.next .in1) | exact .next (.app .in1) | exact .next (.next (.app .in1)) | exact .next (.app .here) | exact .next (.next (.app .here)) | exact .next (.next (.next (.app .here))) | exact .next (.next (.next (.next (.app .here))))) rfl Try.underlying3 rfl rfl (by rfl)) (#[true, true, true, true, true, false, false, false, false, false, false, false, false, false, false, false, false]) (by kernel_rfl) ?_
            refine GA.pure (i := 5) (fun _ _ _ _ _ h => h) rfl (by kernel_rfl) trivial rfl rfl (Y.fieldAddr rfl Try.underlying37 rfl I9 rfl rfl) (#[true, true, true, true, true, true, false, false, false, false, false, false, false, false, false, false, false]) (by kernel_rfl) ?_
            refine GA.read (i := 6) (fun _ _ _ _ _ h => h) rfl (by kernel_rfl) (by kernel_rfl) trivial rfl rfl (Y.loadAt (by first | exact .here | exact .next .here | exact .next (.next .here) | exact .next (.next (.next .here)) | exact .next (.next (.next (.next .here))) | exact .next (.next (.next (.next (.next .here)))) | exact .next (.next (.next (.next (.next (.next .here))))) | exact .next (.next (.next (.next (.next (.next (.next .here)))))) | exact .in1 | exact .next .in1 | exact .next (.next .in1) | exact .next (.next (.next .in1)) | exact .next (.next (.next (.next .in1))) | exact .in2 | exact .next .in2 | exact .next (.next .in2) | exact .next (.next (.next .in2)) | exact .next (.next (.next (.next .in2))) | exact .app .here | exact .app (.next .here) | exact .app (.next (.next .here)) | exact .app (.next (.next (.next .here))) | exact .app (.next (.next (.next (.next .here)))) | exact .app (.next (.next (.next (.next (.next .here))))) | exact .app (.next (.next (.next (.next (.next (.next .here)))))) | exact .app (.next (.next (.next (.next (.next (.next (.next .here))))))) | exact .app .in1 | exact .app .in2 | exact .app (.next .in1) | exact .next (.app .in1) | exact .next (.next (.app .in1)) | exact .next (.app .here) | exact .next (.next (.app .here)) | exact .next (.next (.next (.app .here))) | exact .next (.next (.next (.next (.app .here))))) rfl Try.underlying9 rfl rfl (by rfl)) (#[true, true, true, true, true, true, true, false, false, false, false, false, false, false, false, false, false]) (by kernel_rfl) ?_
            refine GA.pure (i := 8) (fun _ _ _ _ _ h => h) rfl (by kernel_rfl) trivial rfl rfl (Y.moveP rfl rfl) (#[true, true, true, true, true, true, true, false, true, false, false, false, false, false, false, false, false]) (by kernel_rfl) ?_
            refine GA.pure (i := 9) (fun _ _ _ _ _ h => h) rfl (by kernel_rfl) trivial rfl rfl (Y.fieldAddr rfl Try.underlying37 rfl I2 rfl rfl) (#[true, true, true, true, true, true, true, false, true, true, false, false, false, false, false, false, false]) (by kernel_rfl) ?_
            refine GA.read (i := 10) (fun _ _ _ _ _ h => h) rfl (by kernel_rfl) (by kernel_rfl) trivial rfl rfl (Y.loadAt (by first | exact .here | exact .next .here | exact .next (.next .here) | exact .next (.next (.next .here)) | exact .next (.next (.next (.next .here))) | exact .next (.next (.next (.next (.next .here)))) | exact .next (.next (.next (.next (.next (.next .here))))) | exact .next (.next (.next (.next (.next (.next (.next .here)))))) | exact .in1 | exact .next .in1 | exact .next (.next .in1) | exact .next (.next (.next .in1)) | exact .next (.next (.next (.next .in1))) | exact .in2 | exact .next .in2 | exact .next (.next .in2) | exact .next (.next (.next .in2)) | exact .next (.next (.next (.next .in2))) | exact .app .here | exact .app (.next .here) | exact .app (.next (.next .here)) | exact .app (.next (.next (.next .here))) | exact .app (.next (.next (.next (.next .here)))) | exact .app (.next (.next (.next (.next (.next .here))))) | exact .app (.next (.next (.next (.next (.next (.next .here)))))) | exact .app (.next (.next (.next (.next (.next (.next (.next .here))))))) | exact .app .in1 | exact .app .in2 | exact .app (.next .in1) | exact .next (.app .in1) | exact .next (.next (.app .in1)) | exact .next (.app .here) | exact .next (.next (.app .here)) | exact .next (.next (.next (.app .here))) | exact .next (.next (.next (.next (.app .here))))) rfl Try.underlying2 rfl rfl (by rfl)) (#[true, true, true, true, true, true, true, false, true, true, true, false, false, false, false, false, false]) (by kernel_rfl) ?_
            refine GA.pure (i := 11) (fun _ _ _ _ _ h => h) rfl (by kernel_rfl) trivial rfl rfl (Y.fieldAddr rfl Try.underlying37 rfl I3 rfl rfl) (#[true, true, true, true, true, true, true, false, true, true, true, true, false, false, false, false, false]) (by kernel_rfl) ?_
            refine GA.read (i := 12) (fun _ _ _ _ _ h => h) rfl (by kernel_rfl) (by kernel_rfl) trivial rfl rfl (Y.loadAt (by first | exact .here | exact .next .here | exact .next (.next .here) | exact .next (.next (.next .here)) | exact .next (.next (.next (.next .here))) | exact .next (.next (.next (.next (.next .here)))) | exact .next (.next (.next (.next (.next (.next .here))))) | exact .next (.next (.next (.next (.next (.next (.next .here)))))) | exact .in1 | exact .next .in1 | exact .next (.next .in1) | exact .next (.next (.next .in1)) | exact .next (.next (.next (.next .in1))) | exact .in2 | exact .next .in2 | exact .next (.next .in2) | exact .next (.next (.next .in2)) | exact .next (.next (.next (.next .in2))) | exact .app .here | exact .app (.next .here) | exact .app (.next (.next .here)) | exact .app (.next (.next (.next .here))) | exact .app (.next (.next (.next (.next .here)))) | exact .app (.next (.next (.next (.next (.next .here))))) | exact .app (.next (.next (.next (.next (.next (.next .here)))))) | exact .app (.next (.next (.next (.next (.next (.next (.next .here))))))) | exact .app .in1 | exact .app .in2 | exact .app (.next .in1) | exact .next (.app .in1) | exact .next (.next (.app .in1)) | exact .next (.app .here) | exact .next (.next (.app .here)) | exact .next (.next (.next (.app .here))) | exact .next (.next (.next (.next (.app .here))))) rfl Try.underlying3 rfl rfl (by rfl)) (#[true, true, true, true, true, true, true, false, true, true, true, true, true, false, false, false, false]) (by kernel_rfl) ?_
            refine GA.pure (i := 13) (fun _ _ _ _ _ h => h) rfl (by kernel_rfl) trivial rfl rfl (Y.fieldAddr rfl Try.underlying37 rfl I9 rfl rfl) (#[true, true, true, true, true, true, true, false, true, true, true, true, true, true, false, false, false]) (by kernel_rfl) ?_
            refine GA.read (i := 14) (fun _ _ _ _ _ h => h) rfl (by kernel_rfl) (by kernel_rfl) trivial rfl rfl (Y.loadAt (by first | exact .here | exact .next .here | exact .next (.next .here) | exact .next (.next (.next .here)) | exact .next (.next (.next (.next .here))) | exact .next (.next (.next (.next (.next .here)))) | exact .next (.next (.next (.next (.next (.next .here))))) | exact .next (.next (.next (.next (.next (.next (.next .here)))))) | exact .in1 | exact .next .in1 | exact .next (.next .in1) | exact .next (.next (.next .in1)) | exact .next (.next (.next (.next .in1))) | exact .in2 | exact .next .in2 | exact .next (.next .in2) | exact .next (.next (.next .in2)) | exact .next (.next (.next (.next .in2))) | exact .app .here | exact .app (.next .here) | exact .app (.next (.next .here)) | exact .app (.next (.next (.next .here))) | exact .app (.next (.next (.next (.next .here)))) | exact .app (.next (.next (.next (.next (.next .here))))) | exact .app (.next (.next (.next (.next (.next (.next .here)))))) | exact .app (.next (.next (.next (.next (.next (.next (.next .here))))))) | exact .app .in1 | exact .app .in2 | exact .app (.next .in1) | exact .next (.app .in1) | exact .next (.next (.app .in1)) | exact .next (.app .here) | exact .next (.next (.app .here)) | exact .next (.next (.next (.app .here))) | exact .next (.next (.next (.next (.app .here))))) rfl Try.underlying9 rfl rfl (by rfl)) (#[true, true, true, true, true, true, true, false, true, true, true, true, true, true, true, false, false]) (by kernel_rfl) ?_
            refine GA.one (i := 7) rfl (by kernel_rfl) (#[true, true, true, true, true, true, true, true, true, true, true, true, true, true, true, false, false]) (by kernel_rfl) ?_
            refine G.call E13 rfl rfl trivial rfl rfl (tlock_spec W0 bt _ ids ls g i s hs (by omega) (by omega) (by omega) tx mo ks) rfl ?_
            rintro e L2 ⟨rr, ls2, g2, s2, hr1, h2s, rfl, rfl⟩
            refine G.nil ?_
            refine ⟨fun _ _ h => h.tail.tail, ?_⟩
            refine GA.one (i := 15) rfl (by kernel_rfl) (#[true, true, true, true, true, true, true, true, true, true, true, true, true, true, true, true, false]) (by kernel_rfl) ?_
            refine G.call E14 rfl rfl trivial rfl rfl (FnS.perm (rtlock_spec W0 b13 _ ids ls es r hq (by omega) (by omega) (by omega) hms tx mo ks) P2) rfl ?_
            rintro e L2 ⟨rr2, ls3, es2, r2, hr2, hq2, rfl, rfl⟩
            refine G.less (fun _ h => h.perm2) ?_
            obtain ⟨rfl, rfl, hsm2, hel2, hll2, hkp2⟩ := lock_same hsm hr1 hr2
            refine G.nil ?_
            refine ⟨fun _ _ h => h.tail.tail, ?_⟩
            refine GA.pure (i := 16) (fun _ _ _ _ _ h => h) rfl (by kernel_rfl) trivial rfl rfl (Y.bin rfl rfl rfl rfl) (#[true, true, true, true, true, true, true, true, true, true, true, true, true, true, true, true, true]) (by kernel_rfl) ?_
            refine GA.done (by kernel_rfl) ?_
            refine C.no rfl (by simp) ?_
            refine C.skip ?_
            exact ⟨ids, ls2, g2, es2, s2, r2, hup, by omega, by omega, by omega, hkp2 hkp, hsm2, h2s, hq2, rfl, rfl, rfl, rfl, rfl, rfl, rfl⟩
          · intro hc4
            refine C.seq ?_
            refine C.drawn mixed ([[(b7, .row (opC (kd, mo, tx, ks)) 37 4)]]) [] (fun _ h => h.tail.tail) ?_
            refine GA.pure (i := 0) (fun _ _ _ _ _ h => h) rfl (by kernel_rfl) trivial rfl rfl (Y.moveP rfl rfl) (#[true, false, false, false, false, false, false, false, false]) (by kernel_rfl) ?_
            refine GA.pure (i := 1) (fun _ _ _ _ _ h => h) rfl (by kernel_rfl) trivial rfl rfl (Y.fieldAddr rfl Try.underlying37 rfl I2 rfl rfl) (#[true, true, false, false, false, false, false, false, false]) (by kernel_rfl) ?_
            refine GA.read (i := 2) (fun _ _ _ _ _ h => h) rfl (by kernel_rfl) (by kernel_rfl) trivial rfl rfl (Y.loadAt (by first | exact .here | exact .next .here | exact .next (.next .here) | exact .next (.next (.next .here)) | exact .next (.next (.next (.next .here))) | exact .next (.next (.next (.next (.next .here)))) | exact .next (.next (.next (.next (.next (.next .here))))) | exact .next (.next (.next (.next (.next (.next (.next .here)))))) | exact .in1 | exact .next .in1 | exact .next (.next .in1) | exact .next (.next (.next .in1)) | exact .next (.next (.next (.next .in1))) | exact .in2 | exact .next .in2 | exact .next (.next .in2) | exact .next (.next (.next .in2)) | exact .next (.next (.next (.next .in2))) | exact .app .here | exact .app (.next .here) | exact .app (.next (.next .here)) | exact .app (.next (.next (.next .here))) | exact .app (.next (.next (.next (.next .here)))) | exact .app (.next (.next (.next (.next (.next .here))))) | exact .app (.next (.next (.next (.next (.next (.next .here)))))) | exact .app (.next (.next (.next (.next (.next (.next (.next .here))))))) | exact .app .in1 | exact .app .in2 | exact .app (.next .in1) | exact .next (.app .in1) | exact .next (.next (.app .in1)) | exact .next (.app .here) | exact .next (.next (.app .here)) | exact .next (.next (.next (.app .here))) | exact .next (.next (.next (.next (.app .here))))) rfl Try.underlying2 rfl rfl (by rfl)) (#[true, true, true, false, false, false, false, false, false]) (by kernel_rfl) ?_
            refine GA.pure (i := 4) (fun _ _ _ _ _ h => h) rfl (by kernel_rfl) trivial rfl rfl (Y.moveP rfl rfl) (#[true, true, true, false, true, false, false, false, false]) (by kernel_rfl) ?_
            refine GA.pure (i := 5) (fun _ _ _ _ _ h => h) rfl (by kernel_rfl) trivial rfl rfl (Y.fieldAddr rfl Try.underlying37 rfl I2 rfl rfl) (#[true, true, true, false, true, true, false, false, false]) (by kernel_rfl) ?_
            refine GA.read (i := 6) (fun _ _ _ _ _ h => h) rfl (by kernel_rfl) (by kernel_rfl) trivial rfl rfl (Y.loadAt (by first | exact .here | exact .next .here | exact .next (.next .here) | exact .next (.next (.next .here)) | exact .next (.next (.next (.next .here))) | exact .next (.next (.next (.next (.next .here)))) | exact .next (.next (.next (.next (.next (.next .here))))) | exact .next (.next (.next (.next (.next (.next (.next .here)))))) | exact .in1 | exact .next .in1 | exact .next (.next .in1) | exact .next (.next (.next .in1)) | exact .next (.next (.next (.next .in1))) | exact .in2 | exact .next .in2 | exact .next (.next .in2) | exact .next (.next (.next .in2)) | exact .next (.next (.next (.next .in2))) | exact .app .here | exact .app (.next .here) | exact .app (.next (.next .here)) | exact .app (.next (.next (.next .here))) | exact .app (.next (.next (.next (.next .here)))) | exact .app (.next (.next (.next (.next (.next .here))))) | exact .app (.next (.next (.next (.next (.next (.next .here)))))) | exact .app (.next (.next (.next (.next (.next (.next (.next .here))))))) | exact .app .in1 | exact .app .in2 | exact .app (.next .in1) | exact .next (.app .in1) | exact .next (.next (.app .in1)) | exact .next (.app .here) | exact .next (.next (.app .here)) | exact .next (.next (.next (.app .here))) | exact .next (.next (.next (.next (.app .here))))) rfl Try.underlying2 rfl rfl (by rfl)) (#[true, true, true, false, true, true, true, false, false]) (by kernel_rfl) ?_
            refine GA.one (i := 3) rfl (by kernel_rfl) (#[true, true, true, true, true, true, true, false, false]) (by kernel_rfl) ?_
            refine G.call E15 rfl rfl trivial rfl rfl (tend_spec W0 bt _ ids ls g i s hs (by omega) (by omega) tx) rfl ?_
            rintro e L2 ⟨s2, h2s, rfl, rfl⟩
            refine G.nil ?_
            refine ⟨fun _ _ h => h.tail.tail, ?_⟩
            refine GA.one (i := 7) rfl (by kernel_rfl) (#[true, true, true, true, true, true, true, true, false]) (by kernel_rfl) ?_
            refine G.call E16 rfl rfl trivial rfl rfl (FnS.perm (rtend_spec W0 b13 _ ids ls es r hq (by omega) (by omega) (by omega) tx) P2) rfl ?_
            rintro e L2 ⟨r2, hq2, rfl, rfl⟩
            refine G.less (fun _ h => h.perm2) ?_
            refine G.nil ?_
            refine ⟨fun _ _ h => h.tail.tail, ?_⟩
            refine GA.pure (i := 8) (fun _ _ _ _ _ h => h) rfl (by kernel_rfl) trivial rfl rfl (Y.boolNe rfl Try.underlying4 rfl rfl) (#[true, true, true, true, true, true, true, true, true]) (by kernel_rfl) ?_
            refine GA.fix (d := 42) (v := .bool false) (by show Value.bool _ = _; simp) ?_
            refine GA.done (by kernel_rfl) ?_
            refine C.condF rfl ?_
            refine C.skip ?_
            by_cases hin : tx ∈ ids
            · rw [if_pos hin] at h2s hq2
              exact ⟨without tx ids, others tx ls, _, noneOf tx es, s2, r2, hup.filter _, by have := without_le tx ids; omega, by have := others_le tx ls; omega, by have := noneOf_le tx es; omega, others_all hkp, hsm.clear tx, h2s.upto (by omega), hq2, rfl, rfl, rfl, rfl, rfl, rfl, rfl⟩
            · rw [if_neg hin] at h2s hq2
              exact ⟨ids, ls, g, es, s2, r2, hup, by omega, by omega, by omega, hkp, hsm, h2s.upto (by omega), hq2, rfl, rfl, rfl, rfl, rfl, rfl, rfl⟩
      ·
        rintro F D' L' ⟨ids, ls, g, es, s, r, hup, hil, hll, hel, hkp, hsm, hs, hq, h0, h4, h5, h6, h7, rfl, rfl⟩
        refine C.fix (d := 0) h0 ?_
        refine C.fix (d := 4) h4 ?_
        refine C.fix (d := 5) h5 ?_
        refine C.fix (d := 6) h6 ?_
        refine C.fix (d := 7) h7 ?_
        obtain ⟨vi, vk, vw, si, sk, sw, hqi, hqk, hqw, rfl⟩ := hq
        obtain ⟨ai, ci, rfl, hri⟩ := hqi.form
        have hq : RtIs b13 ids ls es (sk ++ ([(b13, .row [.slice ai ids.length ci, vk, vw] 35 3)] ++ (si ++ sw))) := ⟨_, vk, vw, si, sk, sw, hqi, hqk, hqw, rfl⟩
        refine C.seq ?_
        refine C.drawn mixed ([sk ++ ([(b13, .row [.slice ai ids.length ci, vk, vw] 35 3)] ++ (si ++ sw)), [(b7, .row (opC (kd, mo, tx, ks)) 37 4)]]) [] (fun _ h => h.tail) ?_
        refine GA.pure (i := 0) (fun _ _ _ _ _ h => h) rfl (by kernel_rfl) trivial rfl rfl (Y.moveP rfl rfl) (#[true, false, false, false, false, false, false, false, false, false, false, false, false, false, false, false, false, false, false]) (by kernel_rfl) ?_
        refine GA.pure (i := 2) (fun _ _ _ _ _ h => h) rfl (by kernel_rfl) trivial rfl rfl (Y.moveP rfl rfl) (#[true, false, true, false, false, false, false, false, false, false, false, false, false, false, false, false, false, false, false]) (by kernel_rfl) ?_
        first | refine GA.pure (i := 3) (fun _ _ _ _ _ h => h) rfl (by kernel_rfl) trivial rfl rfl (Y.nilCheckP rfl rfl) (#[true, false, true, true, false, false, false, false, false, false, false, false, false, false, false, false, false, false, false]) (by kernel_rfl) ?_ | refine GA.pure (i := 3) (fun _ _ _ _ _ h => h) rfl (by kernel_rfl) trivial rfl rfl (Y.nilCheckF rfl rfl) (#[true, false, true, true, false, false, false, false, false, false, false, false, false, false, false, false, false, false, false]) (by kernel_rfl) ?_
        refine GA.pure (i := 4) (fun _ _ _ _ _ h => h) rfl (by kernel_rfl) trivial rfl rfl (Y.fieldAddr rfl Try.underlying35 rfl I27 rfl rfl) (#[true, false, true, true, true, false, false, false, false, false, false, false, false, false, false, false, false, false, false]) (by kernel_rfl) ?_
        refine GA.read (i := 5) (fun _ _ _ _ _ h => h) rfl (by kernel_rfl) (by kernel_rfl) trivial rfl rfl (Y.loadAt (At.mid (s1 := sk) (s2 := si ++ sw)) rfl Try.underlying27 rfl rfl rfl) (#[true, false, true, true, true, true, false, false, false, false, false, false, false, false, false, false, false, false, false]) (by kernel_rfl) ?_
        refine GA.one (i := 1) rfl (by kernel_rfl) (#[true, true, true, true, true, true, false, false, false, false, false, false, false, false, false, false, false, false, false]) (by kernel_rfl) ?_
        refine G.call E18 rfl rfl trivial rfl rfl (tlist_spec W0 bt _ ids ls g (i + 1) s hs (by omega)) rfl ?_
        rintro e L2 ⟨a74, c74, s74, hv74, rfl, rfl⟩
        obtain ⟨az2, cz2, hae, hrd74⟩ := hv74.form
        cases hae
        refine G.nil ?_
        refine ⟨fun _ _ h => h.tail.tail, ?_⟩
        refine GA.one (i := 6) rfl (by kernel_rfl) (#[true, true, true, true, true, true, true, false, false, false, false, false, false, false, false, false, false, false, false]) (by kernel_rfl) ?_
        refine G.call E17 rfl rfl trivial rfl rfl (eqNums_spec W0 _ a74 ai c74 ci ids ids (hrd74 W0 _) ((hri W0 []).mono fun w hm => ((hm.tail.tail.of_flat (L' := sk :: [(b13, .row [.slice ai ids.length ci, vk, vw] 35 3)] :: si :: sw :: [(b7, .row (opC (kd, mo, tx, ks)) 37 4)] :: []) (by simp)).tail.tail).fewer (by simp)) (by omega) rfl) rfl ?_
        rintro e L2 ⟨rfl, rfl⟩
        refine G.nil ?_
        refine ⟨fun _ _ h => h.tail.tail, ?_⟩
        first | refine GA.pure (i := 7) (fun _ _ _ _ _ h => h) rfl (by kernel_rfl) trivial rfl rfl (Y.notD rfl rfl) (#[true, true, true, true, true, true, true, true, false, false, false, false, false, false, false, false, false, false, false]) (by kernel_rfl) ?_ | refine GA.pure (i := 7) (fun _ _ _ _ _ h => h) rfl (by kernel_rfl) trivial rfl rfl (Y.not rfl rfl) (#[true, true, true, true, true, true, true, true, false, false, false, false, false, false, false, false, false, false, false]) (by kernel_rfl) ?_
        refine GA.pure (i := 8) (fun _ _ _ _ _ h => h) rfl (by kernel_rfl) trivial rfl rfl (Y.moveB rfl rfl) (#[true, true, true, true, true, true, true, true, true, false, false, false, false, false, false, false, false, false, false]) (by kernel_rfl) ?_
        refine GA.pure (i := 9) (fun _ _ _ _ _ h => h) rfl (by kernel_rfl) ⟨_, rfl, rfl, rfl⟩ rfl rfl (Y.moveP rfl rfl) (#[true, true, true, true, true, true, true, true, true, true, false, false, false, false, false, false, false, false, false]) (by kernel_rfl) ?_
        refine GA.pure (i := 10) (fun _ _ _ _ _ h => h) rfl (by kernel_rfl) ⟨_, rfl, rfl, rfl⟩ rfl rfl (Y.fieldAddr rfl Try.underlying37 rfl I2 rfl rfl) (#[true, true, true, true, true, true, true, true, true, true, true, false, false, false, false, false, false, false, false]) (by kernel_rfl) ?_
        refine GA.read (i := 11) (fun _ _ _ _ _ h => h) rfl (by kernel_rfl) (by kernel_rfl) ⟨_, rfl, rfl, rfl⟩ rfl rfl (Y.loadAt (by first | exact .here | exact .next .here | exact .next (.next .here) | exact .next (.next (.next .here)) | exact .next (.next (.next (.next .here))) | exact .next (.next (.next (.next (.next .here)))) | exact .next (.next (.next (.next (.next (.next .here))))) | exact .next (.next (.next (.next (.next (.next (.next .here)))))) | exact .in1 | exact .next .in1 | exact .next (.next .in1) | exact .next (.next (.next .in1)) | exact .next (.next (.next (.next .in1))) | exact .in2 | exact .next .in2 | exact .next (.next .in2) | exact .next (.next (.next .in2)) | exact .next (.next (.next (.next .in2))) | exact .app .here | exact .app (.next .here) | exact .app (.next (.next .here)) | exact .app (.next (.next (.next .here))) | exact .app (.next (.next (.next (.next .here)))) | exact .app (.next (.next (.next (.next (.next .here))))) | exact .app (.next (.next (.next (.next (.next (.next .here)))))) | exact .app (.next (.next (.next (.next (.next (.next (.next .here))))))) | exact .app .in1 | exact .app .in2 | exact .app (.next .in1) | exact .next (.app .in1) | exact .next (.next (.app .in1)) | exact .next (.app .here) | exact .next (.next (.app .here)) | exact .next (.next (.next (.app .here))) | exact .next (.next (.next (.next (.app .here))))) rfl Try.underlying2 rfl rfl (by rfl)) (#[true, true, true, true, true, true, true, true, true, true, true, true, false, false, false, false, false, false, false]) (by kernel_rfl) ?_
        refine GA.pure (i := 13) (fun _ _ _ _ _ h => h) rfl (by kernel_rfl) ⟨_, rfl, rfl, rfl⟩ rfl rfl (Y.moveP rfl rfl) (#[true, true, true, true, true, true, true, true, true, true, true, true, false, true, false, false, false, false, false]) (by kernel_rfl) ?_
        refine GA.pure (i := 14) (fun _ _ _ _ _ h => h) rfl (by kernel_rfl) ⟨_, rfl, rfl, rfl⟩ rfl rfl (Y.fieldAddr rfl Try.underlying37 rfl I2 rfl rfl) (#[true, true, true, true, true, true, true, true, true, true, true, true, false, true, true, false, false, false, false]) (by kernel_rfl) ?_
        refine GA.read (i := 15) (fun _ _ _ _ _ h => h) rfl (by kernel_rfl) (by kernel_rfl) ⟨_, rfl, rfl, rfl⟩ rfl rfl (Y.loadAt (by first | exact .here | exact .next .here | exact .next (.next .here) | exact .next (.next (.next .here)) | exact .next (.next (.next (.next .here))) | exact .next (.next (.next (.next (.next .here)))) | exact .next (.next (.next (.next (.next (.next .here))))) | exact .next (.next (.next (.next (.next (.next (.next .here)))))) | exact .in1 | exact .next .in1 | exact .next (.next .in1) | exact .next (.next (.next .in1)) | exact .next (.next (.next (.next .in1))) | exact .in2 | exact .next .in2 | exact .next (.next .in2) | exact .next (.next (.next .in2)) | exact .next (.next (.next (.next .in2))) | exact .app .here | exact .app (.next .here) | exact .app (.next (.next .here)) | exact .app (.next (.next (.next .here))) | exact .app (.next (.next (.next (.next .here)))) | exact .app (.next (.next (.next (.next (.next .here))))) | exact .app (.next (.next (.next (.next (.next (.next .here)))))) | exact .app (.next (.next (.next (.next (.next (.next (.next .here))))))) | exact .app .in1 | exact .app .in2 | exact .app (.next .in1) | exact .next (.app .in1) | exact .next (.next (.app .in1)) | exact .next (.app .here) | exact .next (.next (.app .here)) | exact .next (.next (.next (.app .here))) | exact .next (.next (.next (.next (.app .here))))) rfl Try.underlying2 rfl rfl (by rfl)) (#[true, true, true, true, true, true, true, true, true, true, true, true, false, true, true, true, false, false, false]) (by kernel_rfl) ?_
        refine GA.one (i := 12) rfl (by kernel_rfl) (#[true, true, true, true, true, true, true, true, true, true, true, true, true, true, true, true, false, false, false]) (by kernel_rfl) ?_
        refine G.call E19 rfl rfl ⟨_, rfl, rfl, rfl⟩ rfl rfl (FnS.read (tis_spec W0 bt _ ids ls g (i + 1) s hs (by omega) tx) P2) rfl ?_
        rintro e L2 ⟨rfl, rfl⟩
        refine G.nil ?_
        refine ⟨fun _ _ h => h.tail.tail, ?_⟩
        refine GA.one (i := 16) rfl (by kernel_rfl) (#[true, true, true, true, true, true, true, true, true, true, true, true, true, true, true, true, true, false, false]) (by kernel_rfl) ?_
        refine G.call E20 rfl rfl ⟨_, rfl, rfl, rfl⟩ rfl rfl (FnS.read (rtis_spec W0 b13 _ ids ls es _ hq (by omega) tx) P3) rfl ?_
        rintro e L2 ⟨rfl, rfl⟩
        refine G.nil ?_
        refine ⟨fun _ _ h => h.tail.tail, ?_⟩
        refine GA.pure (i := 17) (fun _ _ _ _ _ h => h) rfl (by kernel_rfl) ⟨_, rfl, rfl, rfl⟩ rfl rfl (Y.boolNe rfl Try.underlying4 rfl rfl) (#[true, true, true, true, true, true, true, true, true, true, true, true, true, true, true, true, true, true, false]) (by kernel_rfl) ?_
        refine GA.fix (d := 90) (v := .bool false) (by show Value.bool _ = _; simp) ?_
        first | refine GA.pure (i := 18) (fun _ _ _ _ _ h => h) rfl (by kernel_rfl) trivial rfl rfl (Y.pickT rfl rfl rfl) (#[true, true, true, true, true, true, true, true, true, true, true, true, true, true, true, true, true, true, true]) (by kernel_rfl) ?_ | refine GA.pure (i := 18) (fun _ _ _ _ _ h => h) rfl (by kernel_rfl) trivial rfl rfl (Y.pickF rfl rfl rfl) (#[true, true, true, true, true, true, true, true, true, true, true, true, true, true, true, true, true, true, true]) (by kernel_rfl) ?_
        refine GA.done (by kernel_rfl) ?_
        refine C.condF rfl ?_
        refine C.skip ?_
        refine C.region ?_
        refine G.moveI rfl trivial rfl rfl rfl ?_
        refine G.addN (j := 1) rfl trivial rfl rfl rfl rfl (by omega) ?_
        refine G.assignI rfl trivial rfl rfl rfl ?_
        refine G.less (L' := s :: (sk ++ ([(b13, .row [.slice ai ids.length ci, vk, vw] 35 3)] ++ (si ++ sw))) :: []) (fun _ h => h.tail.fewer (by simp)) ?_
        refine G.nil ?_
        exact ⟨ops.length - (i + 1) + 0, by omega, i + 1, ids, ls, g, es, s, _, rfl, by omega, by omega, hup, hil, hll, hel, hkp, hsm, hs, hq, rfl, rfl, rfl, rfl, rfl, rfl⟩
    · intro hc1
      refine C.exit ?_
      refine C.seq ?_
      refine C.region ?_
      refine G.assignB rfl trivial rfl rfl rfl ?_
      refine G.nil ?_
      refine C.ret ?_
      -- end g18Tc1F
      exact ⟨rfl, _, Res.of (rs := [.tmp 2]) rfl rfl, rfl⟩
  · intro hg18
    refine G.skip rfl rfl rfl rfl rfl rfl ?_
    refine G.skip rfl rfl rfl rfl rfl rfl ?_
    first | refine G.pickT rfl trivial rfl rfl rfl rfl ?_ | refine G.pickF rfl trivial rfl rfl rfl rfl ?_
    refine G.nil ?_
    refine C.condF rfl ?_
    refine C.exit ?_
    refine C.seq ?_
    refine C.region ?_
    refine G.assignB rfl trivial rfl rfl rfl ?_
    refine G.nil ?_
    refine C.ret ?_
    -- end g18F
    exact ⟨rfl, _, Res.of (rs := [.tmp 2]) rfl rfl, rfl⟩
end laws
end Go.Proofs.Ytomiidlbfcfpiaa
