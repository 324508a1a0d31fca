/-
  Sheets: SheetAll walked.
-/
import Derived.Test.YtgfdghhojnmaoaaSh10
namespace Go.Proofs.Ytgfdghhojnmaoaa
namespace Sht
open Go Go.SL Go.RowKit

theorem shR_in {mg : Int → Option (List UInt8)} {R : Ans} {no : Int} (h : 0 ≤ no ∧ no ≤ 95) {b : List UInt8} (hm : mg no = some b) : shR mg R no = .ok b := by
  unfold shR
  rw [if_neg (by omega), hm]
theorem shR_out {mg : Int → Option (List UInt8)} {ps : List (Option Bpg)} {bad no : Int} (h : mg no = none) : shR mg (bookR ps bad) no = bookR ps bad no := by
  unfold shR
  by_cases ho : no < 0 ∨ 95 < no
  · rw [if_pos ho]; unfold bookR; rw [if_pos ho]
  · rw [if_neg ho, h]
theorem setC_in {no : Int} {n : Nat} (h : 0 ≤ no ∧ no ≤ 95) (hn : n ≠ 256) : setC no n = 1 := by unfold setC; rw [if_neg (by omega), if_pos hn]
theorem setC_out {no : Int} {n : Nat} (h : ¬ (0 ≤ no ∧ no ≤ 95)) : setC no n = 3 := by unfold setC; rw [if_pos (by omega)]
def chK (mg : Int → Option (List UInt8)) (R : Ans) (n : Nat) : List (Int × List UInt8) := (List.range n).filterMap fun (k : Nat) => chg1 mg R (k : Int)
theorem chK_succ (mg : Int → Option (List UInt8)) (R : Ans) (n : Nat) : chK mg R (n + 1) = chK mg R n ++ (chg1 mg R (n : Int)).toList := by
  unfold chK
  rw [List.range_succ, List.filterMap_append]
  simp only [List.filterMap_cons, List.filterMap_nil]
  cases chg1 mg R (n : Int) <;> rfl
theorem Q12 {x a b : Seg} {L : List Seg} : (x :: a :: b :: L).flatten.Perm (a :: b :: x :: L).flatten := (List.perm_append_comm_assoc [x] [a, b] L).flatten
theorem mem_app {W0 w : World} {x y s so : Seg} {L : List Seg} (h : Mem W0 w (x :: y :: s :: so :: L)) : Mem W0 w (so :: x :: s :: L) := by
  have h1 : Mem W0 w (so :: x :: y :: s :: L) := h.of_flat (List.perm_append_comm_assoc [x, y, s] [so] L).flatten
  exact h1.fewer (by simp)
theorem mem_in {W0 w : World} {x s sp nw : Seg} {L : List Seg} (h : Mem W0 w (x :: s :: sp :: nw :: L)) : Mem W0 w (x :: nw :: s :: L) := by
  have h1 : Mem W0 w (x :: nw :: s :: sp :: L) := h.of_flat ((List.perm_append_comm_assoc [s, sp] [nw] L).cons x).flatten
  exact h1.fewer (by simp)
section laws
variable (W0 : World)
theorem all_walk (a : Option Addr) (len cap : Nat) (xs : List UInt8) (hl : len = xs.length) (hm : xs.length ≤ 9223372036854775807) (hr : ∀ L, Rd W0 L a (bytesV xs)) (a1 : Option Addr) (len1 cap1 : Nat) (ops : List SOp) (h : SOps W0 a1 len1 cap1 ops) (bad : Int) (hbad : -9223372036854775808 ≤ bad ∧ bad ≤ 9223372036854775807) :
    FnS Try.prog W0 3 #[.slice a len cap, .slice a1 len1 cap1, .int .i64 bad] [] (fun e _ => e = .returned (.bool true)) := by
  subst hl
  obtain ⟨rfl, hlc, hcap, hro, hwf⟩ := h
  have hmax : maxLen ≤ 9223372036854775807 := by decide
  refine FnS.of (args := [.slice a xs.length cap, .slice a1 ops.length cap1, .int .i64 bad]) Try.func3 rfl rfl ?_
  refine C.seq ?_
  refine C.region ?_
  refine G.assignB rfl trivial rfl rfl rfl ?_
  refine G.nil ?_
  refine C.seq ?_
  refine C.region ?_
  refine G.call E9 rfl rfl trivial rfl rfl (sbegun_spec W0 _) rfl ?_
  rintro e L2 ⟨rfl, rfl⟩
  refine G.assignB rfl trivial rfl rfl rfl ?_
  refine G.nil ?_
  refine C.seq ?_
  refine C.seq ?_
  refine C.region ?_
  refine G.moveB rfl trivial rfl rfl rfl ?_
  first | refine G.notD rfl trivial rfl rfl rfl ?_ | refine G.not rfl trivial rfl rfl rfl ?_
  refine G.nil ?_
  refine C.condF rfl ?_
  refine C.skip ?_
  refine C.seq ?_
  refine C.region ?_
  refine G.moveI rfl trivial rfl rfl rfl ?_
  refine G.buildL (cs := List.replicate 96 nilS ++ [.int .i64 bad]) rfl trivial rfl rfl Try.underlying28 I28 B28 rfl rfl ?_
  refine G.boxG rfl trivial rfl rfl rfl ?_
  intro b31
  refine G.assignP rfl trivial rfl rfl rfl ?_
  refine G.nil ?_
  refine C.cut (fun F D' L' => ∃ (bd : Int), F 0 = .slice a xs.length cap ∧ F 1 = .slice a1 ops.length cap1 ∧ F 8 = ptr b31 ∧ D' = [] ∧ [(b31, .row (List.replicate 96 nilS ++ [.int .i64 bd]) 28 97)] :: [] = L') ?_ ?_
  ·
    refine C.seq ?_
    refine C.region ?_
    refine G.moveI rfl trivial rfl rfl rfl ?_
    refine G.bin rfl trivial rfl rfl rfl rfl rfl ?_
    refine G.moveB rfl trivial rfl rfl rfl ?_
    refine G.fork (t := 34) _ rfl ?_ ?_
    · intro hg34
      refine G.skip rfl rfl rfl rfl rfl rfl ?_
      refine G.skip rfl rfl rfl rfl rfl rfl ?_
      first | refine G.pickT rfl trivial rfl rfl rfl rfl ?_ | refine G.pickF rfl trivial rfl rfl rfl rfl ?_
      refine G.nil ?_
      refine C.condT rfl ?_
      refine C.region ?_
      refine G.moveP rfl trivial rfl rfl rfl ?_
      first | refine G.nilCheckP rfl trivial rfl rfl rfl ?_ | refine G.nilCheckF rfl trivial rfl rfl rfl ?_
      refine G.fieldAddr rfl trivial rfl rfl Try.underlying28 rfl I3 rfl rfl ?_
      refine G.store (v := .int .i64 0) .here rfl trivial rfl I3 rfl rfl rfl (by simp) (List.replicate 96 nilS ++ [.int .i64 0]) (by rfl) ?_
      refine G.nil ?_
      exact ⟨0, rfl, rfl, rfl, rfl, rfl⟩
    · intro hg34
      refine G.moveI rfl ⟨_, rfl, rfl, rfl⟩ rfl rfl rfl ?_
      refine G.bin rfl ⟨_, rfl, rfl, rfl⟩ rfl rfl rfl rfl rfl ?_
      first | refine G.pickT rfl trivial rfl rfl rfl rfl ?_ | refine G.pickF rfl trivial rfl rfl rfl rfl ?_
      refine G.nil ?_
      refine C.cond _ rfl ?_ ?_
      · intro hc1
        refine C.region ?_
        refine G.moveP rfl trivial rfl rfl rfl ?_
        first | refine G.nilCheckP rfl trivial rfl rfl rfl ?_ | refine G.nilCheckF rfl trivial rfl rfl rfl ?_
        refine G.fieldAddr rfl trivial rfl rfl Try.underlying28 rfl I3 rfl rfl ?_
        refine G.store (v := .int .i64 0) .here rfl trivial rfl I3 rfl rfl rfl (by simp) (List.replicate 96 nilS ++ [.int .i64 0]) (by rfl) ?_
        refine G.nil ?_
        exact ⟨0, rfl, rfl, rfl, rfl, rfl⟩
      · intro hc1
        refine C.skip ?_
        exact ⟨bad, rfl, rfl, rfl, rfl, rfl⟩
  ·
    rintro F D' L' ⟨bd, h0, h1', h8, rfl, rfl⟩
    refine C.fix (d := 0) h0 ?_
    refine C.fix (d := 1) h1' ?_
    refine C.fix (d := 8) h8 ?_
    refine C.seq ?_
    refine C.seq ?_
    refine C.region ?_
    refine G.assignI rfl trivial rfl rfl rfl ?_
    refine G.nil ?_
    refine C.block ?_
    refine C.loop (fun m F D' L' => ∃ (i : Nat) (ps : List (Option Bpg)), m = xs.length - i + 0 ∧ i ≤ xs.length ∧ i ≤ 30 ∧ BookIs b31 ps bd (bookSeg b31 ps bd) ∧ F 0 = .slice a xs.length cap ∧ F 1 = .slice a1 ops.length cap1 ∧ F 8 = ptr b31 ∧ F 9 = .int .i64 (i : Int) ∧ D' = [] ∧ bookSeg b31 ps bd :: [] = L') ⟨_, ⟨0, noPages, rfl, Nat.zero_le _, Nat.zero_le _, ⟨noPages_length, (book_new b31 bd).2.1, rfl⟩, rfl, rfl, rfl, rfl, rfl, by unfold bookSeg; rw [noPages_slots, noPages_pool]⟩⟩ ?_
    rintro m F D' L' ⟨i, ps, rfl, hi, hi30, hbk, h0, h1', h8, h9, rfl, rfl⟩
    refine C.fix (d := 0) h0 ?_
    refine C.fix (d := 1) h1' ?_
    refine C.fix (d := 8) h8 ?_
    refine C.fix (d := 9) h9 ?_
    refine C.seq ?_
    refine C.seq ?_
    refine C.region ?_
    refine G.moveI rfl trivial rfl rfl rfl ?_
    refine G.moveS rfl trivial rfl rfl rfl ?_
    refine G.lenSlice rfl trivial rfl rfl Try.underlying22 rfl ?_
    refine G.bin rfl trivial rfl rfl rfl rfl rfl ?_
    refine G.moveB rfl trivial rfl rfl rfl ?_
    refine G.fork (t := 45) _ rfl ?_ ?_
    · intro hg45
      refine G.moveI rfl ⟨_, rfl, rfl, rfl⟩ rfl rfl rfl ?_
      refine G.bin rfl ⟨_, rfl, rfl, rfl⟩ rfl rfl rfl rfl rfl ?_
      first | refine G.pickT rfl trivial rfl rfl rfl rfl ?_ | refine G.pickF rfl trivial rfl rfl rfl rfl ?_
      refine G.nil ?_
      refine C.cond _ rfl ?_ ?_
      · intro hc2
        have hlt : i < xs.length := by have h := hg45; omega
        obtain ⟨p, o, rfl, _⟩ := (hr []).some_ (by simp; omega)
        refine C.skip ?_
        refine C.seq ?_
        refine C.block ?_
        refine C.drawn mixed ([]) [] (fun _ h => memNone h) ?_
        refine GA.pure (i := 0) (fun _ _ _ _ _ h => h) rfl (by kernel_rfl) trivial rfl rfl (Y.moveP rfl rfl) (#[true, false, false, false, false, false, false, false, false, false, false, false]) (by kernel_rfl) ?_
        refine GA.pure (i := 1) (fun _ _ _ _ _ h => h) rfl (by kernel_rfl) trivial rfl rfl (Y.moveI rfl rfl) (#[true, true, false, false, false, false, false, false, false, false, false, false]) (by kernel_rfl) ?_
        refine GA.pure (i := 2) (fun _ _ _ _ _ h => h) rfl (by kernel_rfl) trivial rfl rfl (Y.moveS rfl rfl) (#[true, true, true, false, false, false, false, false, false, false, false, false]) (by kernel_rfl) ?_
        refine GA.pure (i := 3) (fun _ _ _ _ _ h => h) rfl (by kernel_rfl) trivial rfl rfl (Y.moveI rfl rfl) (#[true, true, true, true, false, false, false, false, false, false, false, false]) (by kernel_rfl) ?_
        refine GA.pure (i := 4) (fun _ _ _ _ _ h => h) rfl (by kernel_rfl) trivial rfl rfl (Y.indexAddr rfl Try.underlying22 I5 rfl rfl (by omega)) (#[true, true, true, true, true, false, false, false, false, false, false, false]) (by kernel_rfl) ?_
        refine GA.read (i := 5) (fun _ _ _ _ _ h => h) rfl (by kernel_rfl) (by kernel_rfl) trivial rfl rfl (Y.load rfl Try.underlying5 rfl rfl (fun w hmm => rd_byte (hr _) hlt w hmm)) (#[true, true, true, true, true, true, false, false, false, false, false, false]) (by kernel_rfl) ?_
        first | refine GA.pure (i := 8) (fun _ _ _ _ _ h => h) rfl (by kernel_rfl) trivial rfl rfl (Y.nilCheckP rfl rfl) (#[true, true, true, true, true, true, false, false, true, false, false, false]) (by kernel_rfl) ?_ | refine GA.pure (i := 8) (fun _ _ _ _ _ h => h) rfl (by kernel_rfl) trivial rfl rfl (Y.nilCheckF rfl rfl) (#[true, true, true, true, true, true, false, false, true, false, false, false]) (by kernel_rfl) ?_
        refine GA.pure (i := 9) (fun _ _ _ _ _ h => h) rfl (by kernel_rfl) trivial rfl rfl (Y.fieldAddr rfl Try.underlying28 rfl I26 rfl rfl) (#[true, true, true, true, true, true, false, false, true, true, false, false]) (by kernel_rfl) ?_
        refine GA.one (i := 6) rfl (by kernel_rfl) (#[true, true, true, true, true, true, true, false, true, true, false, false]) (by kernel_rfl) ?_
        refine G.buildSliceL (cs := [.int .u8 (xs[i].toNat : Int)]) (zs := [(.int .u8 0)]) rfl trivial rfl rfl Try.underlying22 I5 rfl (by kernel_rfl) rfl rfl ?_
        intro b57
        refine G.nil ?_
        refine ⟨fun _ _ h => memNone h, ?_⟩
        refine GA.one (i := 7) rfl (by kernel_rfl) (#[true, true, true, true, true, true, true, true, true, true, false, false]) (by kernel_rfl) ?_
        refine G.call E10 rfl rfl trivial rfl rfl (of_spec W0 _ (some ⟨b57, 0, none⟩) 1 [xs[i]] (fun s => Rd.row0 (.next .here))) rfl ?_
        rintro e L2 ⟨bp, rfl, rfl⟩
        refine G.nil ?_
        refine ⟨fun _ _ h => memNone h, ?_⟩
        refine GA.pure (i := 10) (fun _ _ _ _ _ h => h) rfl (by kernel_rfl) trivial rfl rfl (Y.indexAddrArr rfl Try.underlying26 I22 rfl rfl (by omega)) (#[true, true, true, true, true, true, true, true, true, true, true, false]) (by kernel_rfl) ?_
        refine GA.one (i := 11) rfl (by kernel_rfl) (#[true, true, true, true, true, true, true, true, true, true, true, true]) (by kernel_rfl) ?_
        refine G.store (v := .slice (some ⟨bp, 0, none⟩) 256 256) (.next (.next .here)) rfl trivial rfl I22 rfl rfl rfl (by have := hbk.1; simp; omega) ((ps.map bslot ++ [Value.int .i64 bd]).set i (bslot (some (bp, 256, 256, ofB [xs[i]])))) (by simp [bslot, ofB_length]) ?_
        refine G.less (L' := bookSeg b31 (ps.set i (some (bp, 256, 256, ofB [xs[i]]))) bd :: []) (fun _ h => book_put hbk.1 (by omega) (bp, 256, 256, ofB [xs[i]]) h.skip1) ?_
        refine G.nil ?_
        refine ⟨fun _ _ h => memNone h, ?_⟩
        refine GA.done (by kernel_rfl) ?_
        refine C.region ?_
        refine G.moveI rfl trivial rfl rfl rfl ?_
        refine G.addN (j := 1) rfl trivial rfl rfl rfl rfl (by omega) ?_
        refine G.assignI rfl trivial rfl rfl rfl ?_
        refine G.nil ?_
        exact ⟨xs.length - (i + 1) + 0, by omega, i + 1, _, rfl, by omega, by omega, ⟨by rw [List.length_set]; exact hbk.1, book_caps hbk.2.1 _ ⟨by rw [ofB_length]; exact Nat.le_refl _, Nat.le_refl _, by rw [ofB_length]; decide⟩, rfl⟩, rfl, rfl, rfl, rfl, rfl, rfl⟩
      · intro hc2
        refine C.exit ?_
        refine C.seq ?_
        refine C.region ?_
        have hsrc := book_src W0 b31 hbk
        have hse : ∀ no c, bookR ps bd no = .error c → c ≠ 0 := fun no c => hsrc.errs no c
        refine G.moveP rfl trivial rfl rfl rfl ?_
        refine G.makeInterface rfl trivial rfl rfl Try.underlying25 rfl ?_
        refine G.call E11 rfl rfl trivial rfl rfl (snew_spec W0 [] (.iface 25 (ptr b31)) _ _ (.some hsrc)) rfl ?_
        rintro e L2 ⟨bs, s1, hsh1, rfl, rfl⟩
        refine G.assignP rfl trivial rfl rfl rfl ?_
        refine G.nil ?_
        refine C.seq ?_
        refine C.region ?_
        refine G.allocC (cs := List.replicate 96 nilS) rfl trivial rfl rfl I26 (by kernel_rfl) ?_
        intro b11
        refine G.less (L' := s1 :: nowSeg b11 noPages :: []) (fun _ h => by unfold nowSeg; rw [noPages_slots, noPages_pool]; exact h.perm2) ?_
        refine G.nil ?_
        refine C.seq ?_
        refine C.seq ?_
        refine C.region ?_
        refine G.assignI rfl trivial rfl rfl rfl ?_
        refine G.nil ?_
        refine C.block ?_
        refine C.loop (fun m F D' L' => ∃ (i : Nat) (mg : Int → Option (List UInt8)) (s : Seg) (ns : List (Option Bpg)), m = ops.length - i + 0 ∧ i ≤ ops.length ∧ i ≤ 40 ∧ ShIs W0 bs mg (bookR ps bd) (bookSeg b31 ps bd) s ∧ NowIs ns mg ∧ F 1 = .slice a1 ops.length cap1 ∧ F 8 = ptr b31 ∧ F 10 = ptr bs ∧ F 11 = ptr b11 ∧ F 12 = .int .i64 (i : Int) ∧ D' = [] ∧ s :: nowSeg b11 ns :: [] = L') ⟨_, ⟨0, _, s1, noPages, rfl, Nat.zero_le _, Nat.zero_le _, hsh1, NowIs.none, rfl, rfl, rfl, rfl, rfl, rfl, rfl⟩⟩ ?_
        rintro m F D' L' ⟨i, mg, s, ns, rfl, hi, hi40, hsh, hnw, h1', h8, h10, h11, h12, rfl, rfl⟩
        refine C.fix (d := 1) h1' ?_
        refine C.fix (d := 8) h8 ?_
        refine C.fix (d := 10) h10 ?_
        refine C.fix (d := 11) h11 ?_
        refine C.fix (d := 12) h12 ?_
        refine C.seq ?_
        refine C.seq ?_
        refine C.region ?_
        refine G.moveI rfl trivial rfl rfl rfl ?_
        refine G.moveS rfl trivial rfl rfl rfl ?_
        refine G.lenSlice rfl trivial rfl rfl Try.underlying23 rfl ?_
        refine G.bin rfl trivial rfl rfl rfl rfl rfl ?_
        refine G.moveB rfl trivial rfl rfl rfl ?_
        refine G.fork (t := 69) _ rfl ?_ ?_
        · intro hg69
          refine G.moveI rfl ⟨_, rfl, rfl, rfl⟩ rfl rfl rfl ?_
          refine G.bin rfl ⟨_, rfl, rfl, rfl⟩ rfl rfl rfl rfl rfl ?_
          first | refine G.pickT rfl trivial rfl rfl rfl rfl ?_ | refine G.pickF rfl trivial rfl rfl rfl rfl ?_
          refine G.nil ?_
          refine C.cond _ rfl ?_ ?_
          · intro hc3
            have hlt : i < ops.length := by have h := hg69; omega
            obtain ⟨p, o, rfl, _⟩ := (hro []).some_ (by rw [chunk_length (k := 3) (fun _ _ => rfl)]; omega)
            refine C.skip ?_
            refine C.seq ?_
            refine C.block ?_
            refine C.seq ?_
            refine C.region ?_
            refine G.moveS rfl trivial rfl rfl rfl ?_
            refine G.moveI rfl trivial rfl rfl rfl ?_
            refine G.indexAddr rfl trivial rfl rfl Try.underlying23 I33 rfl rfl (by omega) ?_
            obtain ⟨hoc, hom, hno, hor⟩ := hwf _ (List.getElem_mem hlt)
            refine G.loadAgg (sopC ops[i]) rfl trivial rfl rfl Try.underlying33 rfl I33 rfl rfl (cellS hro hlt) ?_
            generalize ops[i] = op at hoc hom hno hor ⊢
            obtain ⟨kd, no, oa, oc, l⟩ := op
            simp only at hoc hom hno hor
            refine G.allocC (cs := [(.int .i64 0), (.int .i64 0), (.slice none 0 0)]) rfl trivial rfl rfl I33 rfl ?_
            intro b13
            refine G.stRow .here rfl trivial rfl I33 rfl rfl rfl (by rfl) (sopC_ok _) ?_
            refine G.less (L' := s :: nowSeg b11 ns :: [(b13, .row (sopC (kd, no, oa, oc, l)) 33 3)] :: []) (fun _ h => h.of_flat Q12) ?_
            refine G.nil ?_
            refine C.seq ?_
            refine C.region ?_
            refine G.fieldAddr rfl trivial rfl rfl Try.underlying33 rfl I3 rfl rfl ?_
            by_cases hin : 0 ≤ no ∧ no ≤ 95
            ·
              refine G.loadAt (by first | exact .here | exact .next .here | exact .next (.next .here) | exact .next (.next (.next .here)) | exact .next (.next (.next (.next .here))) | exact .next (.next (.next (.next (.next .here)))) | exact .next (.next (.next (.next (.next (.next .here))))) | exact .next (.next (.next (.next (.next (.next (.next .here)))))) | exact .in1 | exact .next .in1 | exact .next (.next .in1) | exact .next (.next (.next .in1)) | exact .next (.next (.next (.next .in1))) | exact .in2 | exact .next .in2 | exact .next (.next .in2) | exact .next (.next (.next .in2)) | exact .next (.next (.next (.next .in2))) | exact .app .here | exact .app (.next .here) | exact .app (.next (.next .here)) | exact .app (.next (.next (.next .here))) | exact .app (.next (.next (.next (.next .here)))) | exact .app (.next (.next (.next (.next (.next .here))))) | exact .app (.next (.next (.next (.next (.next (.next .here)))))) | exact .app (.next (.next (.next (.next (.next (.next (.next .here))))))) | exact .app .in1 | exact .app .in2 | exact .app (.next .in1) | exact .next (.app .in1) | exact .next (.next (.app .in1)) | exact .next (.app .here) | exact .next (.next (.app .here)) | exact .next (.next (.next (.app .here))) | exact .next (.next (.next (.next (.app .here))))) rfl trivial rfl rfl Try.underlying3 rfl rfl (by rfl) ?_
              refine G.bin rfl trivial rfl rfl rfl rfl rfl ?_
              refine G.moveB rfl trivial rfl rfl rfl ?_
              refine G.yes (t := 82) rfl (hin.1) ?_
              refine G.fieldAddr rfl ⟨_, rfl, rfl, rfl⟩ rfl rfl Try.underlying33 rfl I3 rfl rfl ?_
              refine G.loadAt (by first | exact .here | exact .next .here | exact .next (.next .here) | exact .next (.next (.next .here)) | exact .next (.next (.next (.next .here))) | exact .next (.next (.next (.next (.next .here)))) | exact .next (.next (.next (.next (.next (.next .here))))) | exact .next (.next (.next (.next (.next (.next (.next .here)))))) | exact .in1 | exact .next .in1 | exact .next (.next .in1) | exact .next (.next (.next .in1)) | exact .next (.next (.next (.next .in1))) | exact .in2 | exact .next .in2 | exact .next (.next .in2) | exact .next (.next (.next .in2)) | exact .next (.next (.next (.next .in2))) | exact .app .here | exact .app (.next .here) | exact .app (.next (.next .here)) | exact .app (.next (.next (.next .here))) | exact .app (.next (.next (.next (.next .here)))) | exact .app (.next (.next (.next (.next (.next .here))))) | exact .app (.next (.next (.next (.next (.next (.next .here)))))) | exact .app (.next (.next (.next (.next (.next (.next (.next .here))))))) | exact .app .in1 | exact .app .in2 | exact .app (.next .in1) | exact .next (.app .in1) | exact .next (.next (.app .in1)) | exact .next (.app .here) | exact .next (.next (.app .here)) | exact .next (.next (.next (.app .here))) | exact .next (.next (.next (.next (.app .here))))) rfl ⟨_, rfl, rfl, rfl⟩ rfl rfl Try.underlying3 rfl rfl (by rfl) ?_
              refine G.bin rfl ⟨_, rfl, rfl, rfl⟩ rfl rfl rfl rfl rfl ?_
              first | refine G.pickT rfl trivial rfl rfl rfl rfl ?_ | refine G.pickF rfl trivial rfl rfl rfl rfl ?_
              refine G.assignB rfl trivial rfl rfl rfl ?_
              refine G.fix (d := 14) (v := .bool true) (by show Value.bool (decide _) = _; rw [decide_eq_true hin.2]) ?_
              refine G.nil ?_
              refine C.cut (fun F D' L' => ∃ (mg : Int → Option (List UInt8)) (s : Seg) (ns : List (Option Bpg)), ShIs W0 bs mg (bookR ps bd) (bookSeg b31 ps bd) s ∧ NowIs ns mg ∧ F 1 = .slice (some ⟨p, o, none⟩) ops.length cap1 ∧ F 8 = ptr b31 ∧ F 10 = ptr bs ∧ F 11 = ptr b11 ∧ F 12 = .int .i64 (i : Int) ∧ F 13 = ptr b13 ∧ F 14 = .bool true ∧ D' = [] ∧ s :: nowSeg b11 ns :: [(b13, .row (sopC (kd, no, oa, oc, l)) 33 3)] :: [] = L') ?_ ?_
              ·
                refine C.seq ?_
                refine C.region ?_
                refine G.fieldAddr rfl trivial rfl rfl Try.underlying33 rfl I3 rfl rfl ?_
                refine G.loadAt (by first | exact .here | exact .next .here | exact .next (.next .here) | exact .next (.next (.next .here)) | exact .next (.next (.next (.next .here))) | exact .next (.next (.next (.next (.next .here)))) | exact .next (.next (.next (.next (.next (.next .here))))) | exact .next (.next (.next (.next (.next (.next (.next .here)))))) | exact .in1 | exact .next .in1 | exact .next (.next .in1) | exact .next (.next (.next .in1)) | exact .next (.next (.next (.next .in1))) | exact .in2 | exact .next .in2 | exact .next (.next .in2) | exact .next (.next (.next .in2)) | exact .next (.next (.next (.next .in2))) | exact .app .here | exact .app (.next .here) | exact .app (.next (.next .here)) | exact .app (.next (.next (.next .here))) | exact .app (.next (.next (.next (.next .here)))) | exact .app (.next (.next (.next (.next (.next .here))))) | exact .app (.next (.next (.next (.next (.next (.next .here)))))) | exact .app (.next (.next (.next (.next (.next (.next (.next .here))))))) | exact .app .in1 | exact .app .in2 | exact .app (.next .in1) | exact .next (.app .in1) | exact .next (.next (.app .in1)) | exact .next (.app .here) | exact .next (.next (.app .here)) | exact .next (.next (.next (.app .here))) | exact .next (.next (.next (.next (.app .here))))) rfl trivial rfl rfl Try.underlying3 rfl rfl (by rfl) ?_
                refine G.bin rfl trivial rfl rfl rfl rfl rfl ?_
                refine G.nil ?_
                refine C.cond _ rfl ?_ ?_
                · intro hc4
                  refine C.seq ?_
                  refine C.region ?_
                  refine G.fieldAddr rfl trivial rfl rfl Try.underlying33 rfl I22 rfl rfl ?_
                  refine G.loadAt (by first | exact .here | exact .next .here | exact .next (.next .here) | exact .next (.next (.next .here)) | exact .next (.next (.next (.next .here))) | exact .next (.next (.next (.next (.next .here)))) | exact .next (.next (.next (.next (.next (.next .here))))) | exact .next (.next (.next (.next (.next (.next (.next .here)))))) | exact .in1 | exact .next .in1 | exact .next (.next .in1) | exact .next (.next (.next .in1)) | exact .next (.next (.next (.next .in1))) | exact .in2 | exact .next .in2 | exact .next (.next .in2) | exact .next (.next (.next .in2)) | exact .next (.next (.next (.next .in2))) | exact .app .here | exact .app (.next .here) | exact .app (.next (.next .here)) | exact .app (.next (.next (.next .here))) | exact .app (.next (.next (.next (.next .here)))) | exact .app (.next (.next (.next (.next (.next .here))))) | exact .app (.next (.next (.next (.next (.next (.next .here)))))) | exact .app (.next (.next (.next (.next (.next (.next (.next .here))))))) | exact .app .in1 | exact .app .in2 | exact .app (.next .in1) | exact .next (.app .in1) | exact .next (.next (.app .in1)) | exact .next (.app .here) | exact .next (.next (.app .here)) | exact .next (.next (.next (.app .here))) | exact .next (.next (.next (.next (.app .here))))) rfl trivial rfl rfl Try.underlying22 rfl rfl (by rfl) ?_
                  refine G.assignS rfl trivial rfl rfl rfl ?_
                  refine G.nil ?_
                  refine C.cut (fun F D' L' => ∃ (pa : Option Addr) (pc : Nat) (pl : List UInt8) (sp : Seg), (∀ L, Rd W0 (sp :: L) pa (bytesV pl)) ∧ pl.length ≤ 9223372036854775807 ∧ F 1 = .slice (some ⟨p, o, none⟩) ops.length cap1 ∧ F 8 = ptr b31 ∧ F 10 = ptr bs ∧ F 11 = ptr b11 ∧ F 12 = .int .i64 (i : Int) ∧ F 13 = ptr b13 ∧ F 14 = .bool true ∧ F 15 = .slice pa pl.length pc ∧ D' = [] ∧ sp :: s :: nowSeg b11 ns :: [(b13, .row (sopC (kd, no, oa, oc, l)) 33 3)] :: [] = L') ?_ ?_
                  ·
                    refine C.seq ?_
                    refine C.region ?_
                    refine G.moveS rfl trivial rfl rfl rfl ?_
                    refine G.lenSlice rfl trivial rfl rfl Try.underlying22 rfl ?_
                    refine G.bin rfl trivial rfl rfl rfl rfl rfl ?_
                    refine G.moveB rfl trivial rfl rfl rfl ?_
                    refine G.fork (t := 95) _ rfl ?_ ?_
                    · intro hg95
                      refine G.moveS rfl ⟨_, rfl, rfl, rfl⟩ rfl rfl rfl ?_
                      refine G.lenSlice rfl ⟨_, rfl, rfl, rfl⟩ rfl rfl Try.underlying22 rfl ?_
                      refine G.bin rfl ⟨_, rfl, rfl, rfl⟩ rfl rfl rfl rfl rfl ?_
                      first | refine G.pickT rfl trivial rfl rfl rfl rfl ?_ | refine G.pickF rfl trivial rfl rfl rfl rfl ?_
                      refine G.nil ?_
                      refine C.cond _ rfl ?_ ?_
                      · intro hc5
                        refine C.region ?_
                        refine G.moveS rfl trivial rfl rfl rfl ?_
                        refine G.call E10 rfl rfl trivial rfl rfl (of_spec W0 _ oa oc l (fun s => hor _)) rfl ?_
                        rintro e L2 ⟨bp, rfl, rfl⟩
                        refine G.assignS rfl trivial rfl rfl rfl ?_
                        refine G.nil ?_
                        exact ⟨some ⟨bp, 0, none⟩, 256, ofB l, _, fun L => Rd.row0 .here, by rw [ofB_length]; decide, rfl, rfl, rfl, rfl, rfl, rfl, rfl, by rw [ofB_length]; rfl, rfl, rfl⟩
                      · intro hc5
                        refine C.less (fun _ h => h.empty) ?_
                        refine C.skip ?_
                        exact ⟨oa, oc, l, [], fun L => hor _, by omega, rfl, rfl, rfl, rfl, rfl, rfl, rfl, rfl, rfl, rfl⟩
                    · intro hg95
                      refine G.skip rfl rfl rfl rfl rfl rfl ?_
                      refine G.skip rfl rfl rfl rfl rfl rfl ?_
                      refine G.skip rfl rfl rfl rfl rfl rfl ?_
                      first | refine G.pickT rfl trivial rfl rfl rfl rfl ?_ | refine G.pickF rfl trivial rfl rfl rfl rfl ?_
                      refine G.less (fun _ h => h.empty) ?_
                      refine G.nil ?_
                      refine C.condF rfl ?_
                      refine C.skip ?_
                      exact ⟨oa, oc, l, [], fun L => hor _, by omega, rfl, rfl, rfl, rfl, rfl, rfl, rfl, rfl, rfl, rfl⟩
                  ·
                    rintro F D' L' ⟨pa, pc, pl, sp, hpr, hpl, h1', h8, h10, h11, h12, h13, h14, h15, rfl, rfl⟩
                    refine C.fix (d := 1) h1' ?_
                    refine C.fix (d := 8) h8 ?_
                    refine C.fix (d := 10) h10 ?_
                    refine C.fix (d := 11) h11 ?_
                    refine C.fix (d := 12) h12 ?_
                    refine C.fix (d := 13) h13 ?_
                    refine C.fix (d := 14) h14 ?_
                    refine C.fix (d := 15) h15 ?_
                    refine C.seq ?_
                    refine C.region ?_
                    refine G.assignI rfl trivial rfl rfl rfl ?_
                    refine G.nil ?_
                    refine C.seq ?_
                    refine C.seq ?_
                    refine C.region ?_
                    refine G.moveB rfl trivial rfl rfl rfl ?_
                    first | refine G.notD rfl trivial rfl rfl rfl ?_ | refine G.not rfl trivial rfl rfl rfl ?_
                    refine G.nil ?_
                    refine C.condF rfl ?_
                    refine C.seq ?_
                    refine C.region ?_
                    refine G.moveS rfl trivial rfl rfl rfl ?_
                    refine G.lenSlice rfl trivial rfl rfl Try.underlying22 rfl ?_
                    refine G.bin rfl trivial rfl rfl rfl rfl rfl ?_
                    refine G.nil ?_
                    refine C.cond _ rfl ?_ ?_
                    · intro hc7
                      refine C.region ?_
                      refine G.assignI rfl trivial rfl rfl rfl ?_
                      refine G.nil ?_
                      refine C.seq ?_
                      refine C.region ?_
                      refine G.moveP rfl trivial rfl rfl rfl ?_
                      refine G.fieldAddr rfl trivial rfl rfl Try.underlying33 rfl I3 rfl rfl ?_
                      refine G.loadAt (by first | exact .here | exact .next .here | exact .next (.next .here) | exact .next (.next (.next .here)) | exact .next (.next (.next (.next .here))) | exact .next (.next (.next (.next (.next .here)))) | exact .next (.next (.next (.next (.next (.next .here))))) | exact .next (.next (.next (.next (.next (.next (.next .here)))))) | exact .in1 | exact .next .in1 | exact .next (.next .in1) | exact .next (.next (.next .in1)) | exact .next (.next (.next (.next .in1))) | exact .in2 | exact .next .in2 | exact .next (.next .in2) | exact .next (.next (.next .in2)) | exact .next (.next (.next (.next .in2))) | exact .app .here | exact .app (.next .here) | exact .app (.next (.next .here)) | exact .app (.next (.next (.next .here))) | exact .app (.next (.next (.next (.next .here)))) | exact .app (.next (.next (.next (.next (.next .here))))) | exact .app (.next (.next (.next (.next (.next (.next .here)))))) | exact .app (.next (.next (.next (.next (.next (.next (.next .here))))))) | exact .app .in1 | exact .app .in2 | exact .app (.next .in1) | exact .next (.app .in1) | exact .next (.next (.app .in1)) | exact .next (.app .here) | exact .next (.next (.app .here)) | exact .next (.next (.next (.app .here))) | exact .next (.next (.next (.next (.app .here))))) rfl trivial rfl rfl Try.underlying3 rfl rfl (by rfl) ?_
                      refine G.moveS rfl trivial rfl rfl rfl ?_
                      refine G.call E12 rfl rfl trivial rfl rfl (FnS.perm (sset_no W0 bs _ hsh no pa pc pl _ rfl 1 (setC_in hin (by omega)) (by decide) (hpr _)) P2) rfl ?_
                      rintro e L2 ⟨s2, hsh2, rfl, rfl⟩
                      refine G.assignI rfl trivial rfl rfl rfl ?_
                      refine G.less (L' := s2 :: nowSeg b11 ns :: [(b13, .row (sopC (kd, no, oa, oc, l)) 33 3)] :: []) (fun _ h => h.skip1) ?_
                      refine G.nil ?_
                      refine C.seq ?_
                      refine C.seq ?_
                      refine C.region ?_
                      refine G.moveI rfl trivial rfl rfl rfl ?_
                      refine G.bin rfl trivial rfl rfl rfl rfl rfl ?_
                      refine G.moveI rfl trivial rfl rfl rfl ?_
                      refine G.bin rfl trivial rfl rfl rfl rfl rfl ?_
                      refine G.boolNe rfl trivial rfl rfl Try.underlying4 rfl rfl ?_
                      refine G.fix (d := 116) (v := .bool false) rfl ?_
                      refine G.moveB rfl trivial rfl rfl rfl ?_
                      refine G.moveB rfl ⟨_, rfl, rfl, rfl⟩ rfl rfl rfl ?_
                      refine G.moveB rfl ⟨_, rfl, rfl, rfl⟩ rfl rfl rfl ?_
                      refine G.moveI rfl ⟨_, rfl, rfl, rfl⟩ rfl rfl rfl ?_
                      refine G.moveI rfl ⟨_, rfl, rfl, rfl⟩ rfl rfl rfl ?_
                      refine G.bin rfl ⟨_, rfl, rfl, rfl⟩ rfl rfl rfl rfl rfl ?_
                      first | refine G.pickT rfl ⟨_, rfl, rfl, rfl⟩ rfl rfl rfl rfl ?_ | refine G.pickF rfl ⟨_, rfl, rfl, rfl⟩ rfl rfl rfl rfl ?_
                      first | refine G.pickT rfl trivial rfl rfl rfl rfl ?_ | refine G.pickF rfl trivial rfl rfl rfl rfl ?_
                      refine G.nil ?_
                      refine C.condF rfl ?_
                      refine C.skip ?_
                      refine C.seq ?_
                      refine C.region ?_
                      refine G.moveI rfl trivial rfl rfl rfl ?_
                      refine G.bin rfl trivial rfl rfl rfl rfl rfl ?_
                      refine G.nil ?_
                      refine C.condF rfl ?_
                      refine C.skip ?_
                      exact ⟨mg, s2, ns, hsh2, hnw, rfl, rfl, rfl, rfl, rfl, rfl, rfl, rfl, rfl⟩
                    · intro hc7
                      have hp256 : pl.length = 256 := by omega
                      have hno96 : no.toNat < ns.length := by have := hnw.1; omega
                      refine C.skip ?_
                      refine C.seq ?_
                      refine C.region ?_
                      refine G.moveP rfl trivial rfl rfl rfl ?_
                      refine G.fieldAddr rfl trivial rfl rfl Try.underlying33 rfl I3 rfl rfl ?_
                      refine G.loadAt (by first | exact .here | exact .next .here | exact .next (.next .here) | exact .next (.next (.next .here)) | exact .next (.next (.next (.next .here))) | exact .next (.next (.next (.next (.next .here)))) | exact .next (.next (.next (.next (.next (.next .here))))) | exact .next (.next (.next (.next (.next (.next (.next .here)))))) | exact .in1 | exact .next .in1 | exact .next (.next .in1) | exact .next (.next (.next .in1)) | exact .next (.next (.next (.next .in1))) | exact .in2 | exact .next .in2 | exact .next (.next .in2) | exact .next (.next (.next .in2)) | exact .next (.next (.next (.next .in2))) | exact .app .here | exact .app (.next .here) | exact .app (.next (.next .here)) | exact .app (.next (.next (.next .here))) | exact .app (.next (.next (.next (.next .here)))) | exact .app (.next (.next (.next (.next (.next .here))))) | exact .app (.next (.next (.next (.next (.next (.next .here)))))) | exact .app (.next (.next (.next (.next (.next (.next (.next .here))))))) | exact .app .in1 | exact .app .in2 | exact .app (.next .in1) | exact .next (.app .in1) | exact .next (.next (.app .in1)) | exact .next (.app .here) | exact .next (.next (.app .here)) | exact .next (.next (.next (.app .here))) | exact .next (.next (.next (.next (.app .here))))) rfl trivial rfl rfl Try.underlying3 rfl rfl (by rfl) ?_
                      refine G.moveS rfl trivial rfl rfl rfl ?_
                      rw [hp256]
                      refine G.call E12 rfl rfl trivial rfl rfl (FnS.perm (sset_in W0 bs _ hsh no hin pa pc pl hp256 (hpr _)) P2) rfl ?_
                      rintro e L2 ⟨s2, hsh2, rfl, rfl⟩
                      refine G.assignI rfl trivial rfl rfl rfl ?_
                      refine G.nil ?_
                      refine C.seq ?_
                      refine C.seq ?_
                      refine C.region ?_
                      refine G.moveI rfl trivial rfl rfl rfl ?_
                      refine G.bin rfl trivial rfl rfl rfl rfl rfl ?_
                      refine G.moveI rfl trivial rfl rfl rfl ?_
                      refine G.bin rfl trivial rfl rfl rfl rfl rfl ?_
                      refine G.boolNe rfl trivial rfl rfl Try.underlying4 rfl rfl ?_
                      refine G.fix (d := 116) (v := .bool false) rfl ?_
                      refine G.moveB rfl trivial rfl rfl rfl ?_
                      refine G.moveB rfl ⟨_, rfl, rfl, rfl⟩ rfl rfl rfl ?_
                      refine G.moveB rfl ⟨_, rfl, rfl, rfl⟩ rfl rfl rfl ?_
                      refine G.moveI rfl ⟨_, rfl, rfl, rfl⟩ rfl rfl rfl ?_
                      refine G.moveI rfl ⟨_, rfl, rfl, rfl⟩ rfl rfl rfl ?_
                      refine G.bin rfl ⟨_, rfl, rfl, rfl⟩ rfl rfl rfl rfl rfl ?_
                      first | refine G.pickT rfl ⟨_, rfl, rfl, rfl⟩ rfl rfl rfl rfl ?_ | refine G.pickF rfl ⟨_, rfl, rfl, rfl⟩ rfl rfl rfl rfl ?_
                      first | refine G.pickT rfl trivial rfl rfl rfl rfl ?_ | refine G.pickF rfl trivial rfl rfl rfl rfl ?_
                      refine G.nil ?_
                      refine C.condF rfl ?_
                      refine C.skip ?_
                      refine C.seq ?_
                      refine C.region ?_
                      refine G.moveI rfl trivial rfl rfl rfl ?_
                      refine G.bin rfl trivial rfl rfl rfl rfl rfl ?_
                      refine G.nil ?_
                      refine C.condT rfl ?_
                      refine C.drawn mixed ([[(b13, .row (sopC (kd, no, oa, oc, l)) 33 3)]]) [] (fun _ h => h.tail.tail.tail) ?_
                      refine GA.pure (i := 0) (fun _ _ _ _ _ h => h) rfl (by kernel_rfl) trivial rfl rfl (Y.fieldAddr rfl Try.underlying33 rfl I3 rfl rfl) (#[true, false, false, false, false, false]) (by kernel_rfl) ?_
                      refine GA.read (i := 1) (fun _ _ _ _ _ h => h) rfl (by kernel_rfl) (by kernel_rfl) trivial rfl rfl (Y.loadAt (by first | exact .here | exact .next .here | exact .next (.next .here) | exact .next (.next (.next .here)) | exact .next (.next (.next (.next .here))) | exact .next (.next (.next (.next (.next .here)))) | exact .next (.next (.next (.next (.next (.next .here))))) | exact .next (.next (.next (.next (.next (.next (.next .here)))))) | exact .in1 | exact .next .in1 | exact .next (.next .in1) | exact .next (.next (.next .in1)) | exact .next (.next (.next (.next .in1))) | exact .in2 | exact .next .in2 | exact .next (.next .in2) | exact .next (.next (.next .in2)) | exact .next (.next (.next (.next .in2))) | exact .app .here | exact .app (.next .here) | exact .app (.next (.next .here)) | exact .app (.next (.next (.next .here))) | exact .app (.next (.next (.next (.next .here)))) | exact .app (.next (.next (.next (.next (.next .here))))) | exact .app (.next (.next (.next (.next (.next (.next .here)))))) | exact .app (.next (.next (.next (.next (.next (.next (.next .here))))))) | exact .app .in1 | exact .app .in2 | exact .app (.next .in1) | exact .next (.app .in1) | exact .next (.next (.app .in1)) | exact .next (.app .here) | exact .next (.next (.app .here)) | exact .next (.next (.next (.app .here))) | exact .next (.next (.next (.next (.app .here))))) rfl Try.underlying3 rfl rfl (by rfl)) (#[true, true, false, false, false, false]) (by kernel_rfl) ?_
                      refine GA.fix (d := 128) (v := .int .i64 no) rfl ?_
                      refine GA.pure (i := 2) (fun _ _ _ _ _ h => h) rfl (by kernel_rfl) trivial rfl rfl (Y.moveS rfl rfl) (#[true, true, true, false, false, false]) (by kernel_rfl) ?_
                      refine GA.one (i := 3) rfl (by kernel_rfl) (#[true, true, true, true, false, false]) (by kernel_rfl) ?_
                      refine G.appendNil rfl trivial rfl rfl Try.underlying22 Try.underlying22 I5 rfl (by decide) rfl (by decide) (hpr _).cons (by simp; omega) bytesV_ok (by omega) ?_
                      intro v130 s130 hv130
                      obtain ⟨bq, cq, kq, rfl, rfl, hq1, hq2⟩ := hv130.block (by omega)
                      refine G.nil ?_
                      refine ⟨fun _ _ h => h.tail.tail.tail.tail, ?_⟩
                      refine GA.pure (i := 4) (fun _ _ _ _ _ h => h) rfl (by kernel_rfl) trivial rfl rfl (Y.indexAddrArr rfl Try.underlying26 I22 rfl rfl (by omega)) (#[true, true, true, true, true, false]) (by kernel_rfl) ?_
                      refine GA.one (i := 5) rfl (by kernel_rfl) (#[true, true, true, true, true, true]) (by kernel_rfl) ?_
                      refine G.store (v := .slice (some ⟨bq, 0, none⟩) 256 cq) (.next (.next (.next .here))) rfl trivial rfl I22 rfl rfl rfl (by have := hnw.1; simp; omega) ((ns.map bslot).set no.toNat (bslot (some (bq, cq, kq, pl)))) (by simp [bslot, hp256]) ?_
                      refine G.less (L' := s2 :: nowSeg b11 (ns.set no.toNat (some (bq, cq, kq, pl))) :: [(b13, .row (sopC (kd, no, oa, oc, l)) 33 3)] :: []) (fun _ h => (now_put hno96 (bq, cq, kq, pl) (mem_in h)).perm2) ?_
                      refine G.nil ?_
                      refine ⟨fun _ _ h => h.tail.tail, ?_⟩
                      refine GA.done (by kernel_rfl) ?_
                      have hnw2 := hnw.set (i := no.toNat) (by omega) (bq, cq, kq, pl) ⟨(by show pl.length ≤ cq; omega), (by show cq ≤ kq; omega), (by show pl.length ≤ _; omega)⟩
                      rw [show ((no.toNat : Nat) : Int) = no by omega] at hnw2
                      exact ⟨_, s2, _, hsh2, hnw2, rfl, rfl, rfl, rfl, rfl, rfl, rfl, rfl, rfl⟩
                · intro hc4
                  refine C.skip ?_
                  exact ⟨mg, s, ns, hsh, hnw, rfl, rfl, rfl, rfl, rfl, rfl, rfl, rfl, rfl⟩
              ·
                rintro F D' L' ⟨mg, s, ns, hsh, hnw, h1', h8, h10, h11, h12, h13, h14, rfl, rfl⟩
                refine C.fix (d := 1) h1' ?_
                refine C.fix (d := 8) h8 ?_
                refine C.fix (d := 10) h10 ?_
                refine C.fix (d := 11) h11 ?_
                refine C.fix (d := 12) h12 ?_
                refine C.fix (d := 13) h13 ?_
                refine C.fix (d := 14) h14 ?_
                refine C.seq ?_
                refine C.region ?_
                refine G.moveP rfl trivial rfl rfl rfl ?_
                refine G.fieldAddr rfl trivial rfl rfl Try.underlying33 rfl I3 rfl rfl ?_
                refine G.loadAt (by first | exact .here | exact .next .here | exact .next (.next .here) | exact .next (.next (.next .here)) | exact .next (.next (.next (.next .here))) | exact .next (.next (.next (.next (.next .here)))) | exact .next (.next (.next (.next (.next (.next .here))))) | exact .next (.next (.next (.next (.next (.next (.next .here)))))) | exact .in1 | exact .next .in1 | exact .next (.next .in1) | exact .next (.next (.next .in1)) | exact .next (.next (.next (.next .in1))) | exact .in2 | exact .next .in2 | exact .next (.next .in2) | exact .next (.next (.next .in2)) | exact .next (.next (.next (.next .in2))) | exact .app .here | exact .app (.next .here) | exact .app (.next (.next .here)) | exact .app (.next (.next (.next .here))) | exact .app (.next (.next (.next (.next .here)))) | exact .app (.next (.next (.next (.next (.next .here))))) | exact .app (.next (.next (.next (.next (.next (.next .here)))))) | exact .app (.next (.next (.next (.next (.next (.next (.next .here))))))) | exact .app .in1 | exact .app .in2 | exact .app (.next .in1) | exact .next (.app .in1) | exact .next (.next (.app .in1)) | exact .next (.app .here) | exact .next (.next (.app .here)) | exact .next (.next (.next (.app .here))) | exact .next (.next (.next (.next (.app .here))))) rfl trivial rfl rfl Try.underlying3 rfl rfl (by rfl) ?_
                refine G.call E13 rfl rfl trivial rfl rfl (spage_any W0 bs _ hsh no hno) rfl ?_
                rintro e L2 ⟨a18, c18, so1, hr1, rfl, rfl⟩
                refine G.moveU rfl trivial rfl rfl rfl ?_
                refine G.extractL rfl trivial rfl rfl rfl rfl ?_
                refine G.extractL rfl trivial rfl rfl rfl rfl ?_
                refine G.assignS rfl trivial rfl rfl rfl ?_
                refine G.assignI rfl trivial rfl rfl rfl ?_
                refine G.nil ?_
                refine C.seq ?_
                refine C.region ?_
                refine G.moveP rfl trivial rfl rfl rfl ?_
                refine G.fieldAddr rfl trivial rfl rfl Try.underlying33 rfl I3 rfl rfl ?_
                refine G.loadAt (by first | exact .here | exact .next .here | exact .next (.next .here) | exact .next (.next (.next .here)) | exact .next (.next (.next (.next .here))) | exact .next (.next (.next (.next (.next .here)))) | exact .next (.next (.next (.next (.next (.next .here))))) | exact .next (.next (.next (.next (.next (.next (.next .here)))))) | exact .in1 | exact .next .in1 | exact .next (.next .in1) | exact .next (.next (.next .in1)) | exact .next (.next (.next (.next .in1))) | exact .in2 | exact .next .in2 | exact .next (.next .in2) | exact .next (.next (.next .in2)) | exact .next (.next (.next (.next .in2))) | exact .app .here | exact .app (.next .here) | exact .app (.next (.next .here)) | exact .app (.next (.next (.next .here))) | exact .app (.next (.next (.next (.next .here)))) | exact .app (.next (.next (.next (.next (.next .here))))) | exact .app (.next (.next (.next (.next (.next (.next .here)))))) | exact .app (.next (.next (.next (.next (.next (.next (.next .here))))))) | exact .app .in1 | exact .app .in2 | exact .app (.next .in1) | exact .next (.app .in1) | exact .next (.next (.app .in1)) | exact .next (.app .here) | exact .next (.next (.app .here)) | exact .next (.next (.next (.app .here))) | exact .next (.next (.next (.next (.app .here))))) rfl trivial rfl rfl Try.underlying3 rfl rfl (by rfl) ?_
                refine G.call E14 rfl rfl trivial rfl rfl (FnS.perm (inner_any W0 bs _ hsh hsrc no hno) P2) rfl ?_
                rintro e L2 ⟨a20, c20, so2, hr2, rfl, rfl⟩
                refine G.moveU rfl trivial rfl rfl rfl ?_
                refine G.extractL rfl trivial rfl rfl rfl rfl ?_
                refine G.extractL rfl trivial rfl rfl rfl rfl ?_
                refine G.assignS rfl trivial rfl rfl rfl ?_
                refine G.assignI rfl trivial rfl rfl rfl ?_
                refine G.nil ?_
                refine C.cut (fun F D' L' => ∃ (ya : Option Addr) (yc : Nat), (Rd W0 (so2 :: s :: so1 :: nowSeg b11 ns :: [(b13, .row (sopC (kd, no, oa, oc, l)) 33 3)] :: []) ya (bytesV (ansB (shR mg (bookR ps bd) no)))) ∧ F 1 = .slice (some ⟨p, o, none⟩) ops.length cap1 ∧ F 8 = ptr b31 ∧ F 10 = ptr bs ∧ F 11 = ptr b11 ∧ F 12 = .int .i64 (i : Int) ∧ F 18 = .slice a18 (ansB (shR mg (bookR ps bd) no)).length c18 ∧ F 19 = .int .i64 (ansC (shR mg (bookR ps bd) no)) ∧ F 20 = .slice ya (ansB (shR mg (bookR ps bd) no)).length yc ∧ F 21 = .int .i64 (ansC (shR mg (bookR ps bd) no)) ∧ D' = [] ∧ so2 :: s :: so1 :: nowSeg b11 ns :: [(b13, .row (sopC (kd, no, oa, oc, l)) 33 3)] :: [] = L') ?_ ?_
                ·
                  refine C.seq ?_
                  refine C.region ?_
                  refine G.moveB rfl trivial rfl rfl rfl ?_
                  refine G.moveB rfl trivial rfl rfl rfl ?_
                  have hsl := slot_at (ns := ns) (k := no.toNat) (by have := hnw.1; omega)
                  rw [show ((no.toNat : Nat) : Int) = no by omega] at hsl
                  have hnv := hnw.2.2 no.toNat (by omega)
                  rw [show ((no.toNat : Nat) : Int) = no by omega] at hnv
                  refine G.fieldAddr rfl ⟨_, rfl, rfl, rfl⟩ rfl rfl Try.underlying33 rfl I3 rfl rfl ?_
                  refine G.loadAt (by first | exact .here | exact .next .here | exact .next (.next .here) | exact .next (.next (.next .here)) | exact .next (.next (.next (.next .here))) | exact .next (.next (.next (.next (.next .here)))) | exact .next (.next (.next (.next (.next (.next .here))))) | exact .next (.next (.next (.next (.next (.next (.next .here)))))) | exact .in1 | exact .next .in1 | exact .next (.next .in1) | exact .next (.next (.next .in1)) | exact .next (.next (.next (.next .in1))) | exact .in2 | exact .next .in2 | exact .next (.next .in2) | exact .next (.next (.next .in2)) | exact .next (.next (.next (.next .in2))) | exact .app .here | exact .app (.next .here) | exact .app (.next (.next .here)) | exact .app (.next (.next (.next .here))) | exact .app (.next (.next (.next (.next .here)))) | exact .app (.next (.next (.next (.next (.next .here))))) | exact .app (.next (.next (.next (.next (.next (.next .here)))))) | exact .app (.next (.next (.next (.next (.next (.next (.next .here))))))) | exact .app .in1 | exact .app .in2 | exact .app (.next .in1) | exact .next (.app .in1) | exact .next (.next (.app .in1)) | exact .next (.app .here) | exact .next (.next (.app .here)) | exact .next (.next (.next (.app .here))) | exact .next (.next (.next (.next (.app .here))))) rfl ⟨_, rfl, rfl, rfl⟩ rfl rfl Try.underlying3 rfl rfl (by rfl) ?_
                  refine G.fix (d := 149) (v := .int .i64 no) rfl ?_
                  refine G.indexAddrArr rfl ⟨_, rfl, rfl, rfl⟩ rfl rfl Try.underlying26 I22 rfl rfl (by omega) ?_
                  by_cases hsome : ∃ e, ns[no.toNat]! = some e
                  ·
                    obtain ⟨en, hen⟩ := hsome
                    rw [hen] at hsl hnv
                    have hmem : some en ∈ ns := by rw [← hen, getElem!_pos ns no.toNat (by have := hnw.1; omega)]; exact List.getElem_mem _
                    refine G.loadAt (v := .slice (some ⟨en.1, 0, none⟩) en.2.2.2.length en.2.1) (.next (.next (.next .here))) rfl ⟨_, rfl, rfl, rfl⟩ rfl rfl Try.underlying22 rfl rfl hsl ?_
                    refine G.slNe rfl ⟨_, rfl, rfl, rfl⟩ rfl rfl Try.underlying22 rfl rfl ?_
                    refine G.fix (d := 152) (v := .bool true) rfl ?_
                    first | refine G.pickT rfl trivial rfl rfl rfl rfl ?_ | refine G.pickF rfl trivial rfl rfl rfl rfl ?_
                    refine G.nil ?_
                    refine C.condT rfl ?_
                    refine C.region ?_
                    refine G.fieldAddr rfl trivial rfl rfl Try.underlying33 rfl I3 rfl rfl ?_
                    refine G.loadAt (by first | exact .here | exact .next .here | exact .next (.next .here) | exact .next (.next (.next .here)) | exact .next (.next (.next (.next .here))) | exact .next (.next (.next (.next (.next .here)))) | exact .next (.next (.next (.next (.next (.next .here))))) | exact .next (.next (.next (.next (.next (.next (.next .here)))))) | exact .in1 | exact .next .in1 | exact .next (.next .in1) | exact .next (.next (.next .in1)) | exact .next (.next (.next (.next .in1))) | exact .in2 | exact .next .in2 | exact .next (.next .in2) | exact .next (.next (.next .in2)) | exact .next (.next (.next (.next .in2))) | exact .app .here | exact .app (.next .here) | exact .app (.next (.next .here)) | exact .app (.next (.next (.next .here))) | exact .app (.next (.next (.next (.next .here)))) | exact .app (.next (.next (.next (.next (.next .here))))) | exact .app (.next (.next (.next (.next (.next (.next .here)))))) | exact .app (.next (.next (.next (.next (.next (.next (.next .here))))))) | exact .app .in1 | exact .app .in2 | exact .app (.next .in1) | exact .next (.app .in1) | exact .next (.next (.app .in1)) | exact .next (.app .here) | exact .next (.next (.app .here)) | exact .next (.next (.next (.app .here))) | exact .next (.next (.next (.next (.app .here))))) rfl trivial rfl rfl Try.underlying3 rfl rfl (by rfl) ?_
                    refine G.fix (d := 155) (v := .int .i64 no) rfl ?_
                    refine G.indexAddrArr rfl trivial rfl rfl Try.underlying26 I22 rfl rfl (by omega) ?_
                    refine G.loadAt (v := .slice (some ⟨en.1, 0, none⟩) en.2.2.2.length en.2.1) (.next (.next (.next .here))) rfl trivial rfl rfl Try.underlying22 rfl rfl hsl ?_
                    refine G.assignS rfl trivial rfl rfl rfl ?_
                    refine G.assignI rfl trivial rfl rfl rfl ?_
                    refine G.nil ?_
                    rw [shR_in hin hnv.symm]
                    exact ⟨some ⟨en.1, 0, none⟩, en.2.1, (now_rd hmem _).cons.cons.cons, rfl, rfl, rfl, rfl, rfl, rfl, rfl, rfl, rfl, rfl, rfl⟩
                  ·
                    have hen : ns[no.toNat]! = none := by
                      cases hq : ns[no.toNat]! with
                      | none => rfl
                      | some e => exact absurd ⟨e, hq⟩ hsome
                    rw [hen] at hsl hnv
                    refine G.loadAt (v := nilS) (.next (.next (.next .here))) rfl ⟨_, rfl, rfl, rfl⟩ rfl rfl Try.underlying22 rfl rfl hsl ?_
                    refine G.slNe rfl ⟨_, rfl, rfl, rfl⟩ rfl rfl Try.underlying22 rfl rfl ?_
                    refine G.fix (d := 152) (v := .bool false) rfl ?_
                    first | refine G.pickT rfl trivial rfl rfl rfl rfl ?_ | refine G.pickF rfl trivial rfl rfl rfl rfl ?_
                    refine G.nil ?_
                    refine C.condF rfl ?_
                    refine C.skip ?_
                    rw [shR_out hnv.symm]
                    exact ⟨a20, c20, hr2 _ _, rfl, rfl, rfl, rfl, rfl, rfl, rfl, rfl, rfl, rfl, rfl⟩
                ·
                  rintro F D' L' ⟨ya, yc, hry, h1', h8, h10, h11, h12, h18, h19, h20, h21, rfl, rfl⟩
                  refine C.fix (d := 1) h1' ?_
                  refine C.fix (d := 8) h8 ?_
                  refine C.fix (d := 10) h10 ?_
                  refine C.fix (d := 11) h11 ?_
                  refine C.fix (d := 12) h12 ?_
                  refine C.fix (d := 18) h18 ?_
                  refine C.fix (d := 19) h19 ?_
                  refine C.fix (d := 20) h20 ?_
                  refine C.fix (d := 21) h21 ?_
                  refine C.seq ?_
                  refine C.region ?_
                  refine G.moveI rfl trivial rfl rfl rfl ?_
                  refine G.moveI rfl trivial rfl rfl rfl ?_
                  refine G.bin rfl trivial rfl rfl rfl rfl rfl ?_
                  refine G.moveB rfl trivial rfl rfl rfl ?_
                  refine G.no (t := 161) rfl (by simp) ?_
                  refine G.moveS rfl ⟨_, rfl, rfl, rfl⟩ rfl rfl rfl ?_
                  refine G.bytesStr (ansB (shR mg (bookR ps bd) no)) rfl ⟨_, rfl, rfl, rfl⟩ rfl rfl Try.underlying22 Try.underlying5 Try.underlying9 rfl rfl ((hr1 _ _).cons.cons) ?_
                  refine G.moveS rfl ⟨_, rfl, rfl, rfl⟩ rfl rfl rfl ?_
                  refine G.bytesStr (ansB (shR mg (bookR ps bd) no)) rfl ⟨_, rfl, rfl, rfl⟩ rfl rfl Try.underlying22 Try.underlying5 Try.underlying9 rfl rfl hry ?_
                  refine G.strNe rfl ⟨_, rfl, rfl, rfl⟩ rfl rfl  rfl rfl ?_
                  first | refine G.pickT rfl trivial rfl rfl rfl rfl ?_ | refine G.pickF rfl trivial rfl rfl rfl rfl ?_
                  refine G.nil ?_
                  refine C.no rfl (by simp) ?_
                  refine C.skip ?_
                  refine C.region ?_
                  refine G.moveI rfl trivial rfl rfl rfl ?_
                  refine G.addN (j := 1) rfl trivial rfl rfl rfl rfl (by omega) ?_
                  refine G.assignI rfl trivial rfl rfl rfl ?_
                  refine G.less (L' := s :: nowSeg b11 ns :: []) (fun _ h => h.tail.skip1.fewer (by simp)) ?_
                  refine G.nil ?_
                  exact ⟨ops.length - (i + 1) + 0, by omega, i + 1, mg, s, ns, rfl, by omega, by omega, hsh, hnw, rfl, rfl, rfl, rfl, rfl, rfl, rfl⟩
            ·
              refine G.loadAt (by first | exact .here | exact .next .here | exact .next (.next .here) | exact .next (.next (.next .here)) | exact .next (.next (.next (.next .here))) | exact .next (.next (.next (.next (.next .here)))) | exact .next (.next (.next (.next (.next (.next .here))))) | exact .next (.next (.next (.next (.next (.next (.next .here)))))) | exact .in1 | exact .next .in1 | exact .next (.next .in1) | exact .next (.next (.next .in1)) | exact .next (.next (.next (.next .in1))) | exact .in2 | exact .next .in2 | exact .next (.next .in2) | exact .next (.next (.next .in2)) | exact .next (.next (.next (.next .in2))) | exact .app .here | exact .app (.next .here) | exact .app (.next (.next .here)) | exact .app (.next (.next (.next .here))) | exact .app (.next (.next (.next (.next .here)))) | exact .app (.next (.next (.next (.next (.next .here))))) | exact .app (.next (.next (.next (.next (.next (.next .here)))))) | exact .app (.next (.next (.next (.next (.next (.next (.next .here))))))) | exact .app .in1 | exact .app .in2 | exact .app (.next .in1) | exact .next (.app .in1) | exact .next (.next (.app .in1)) | exact .next (.app .here) | exact .next (.next (.app .here)) | exact .next (.next (.next (.app .here))) | exact .next (.next (.next (.next (.app .here))))) rfl trivial rfl rfl Try.underlying3 rfl rfl (by rfl) ?_
              refine G.bin rfl trivial rfl rfl rfl rfl rfl ?_
              refine G.moveB rfl trivial rfl rfl rfl ?_
              refine G.fork (t := 82) _ rfl ?_ ?_
              · intro hg82
                refine G.fieldAddr rfl ⟨_, rfl, rfl, rfl⟩ rfl rfl Try.underlying33 rfl I3 rfl rfl ?_
                refine G.loadAt (by first | exact .here | exact .next .here | exact .next (.next .here) | exact .next (.next (.next .here)) | exact .next (.next (.next (.next .here))) | exact .next (.next (.next (.next (.next .here)))) | exact .next (.next (.next (.next (.next (.next .here))))) | exact .next (.next (.next (.next (.next (.next (.next .here)))))) | exact .in1 | exact .next .in1 | exact .next (.next .in1) | exact .next (.next (.next .in1)) | exact .next (.next (.next (.next .in1))) | exact .in2 | exact .next .in2 | exact .next (.next .in2) | exact .next (.next (.next .in2)) | exact .next (.next (.next (.next .in2))) | exact .app .here | exact .app (.next .here) | exact .app (.next (.next .here)) | exact .app (.next (.next (.next .here))) | exact .app (.next (.next (.next (.next .here)))) | exact .app (.next (.next (.next (.next (.next .here))))) | exact .app (.next (.next (.next (.next (.next (.next .here)))))) | exact .app (.next (.next (.next (.next (.next (.next (.next .here))))))) | exact .app .in1 | exact .app .in2 | exact .app (.next .in1) | exact .next (.app .in1) | exact .next (.next (.app .in1)) | exact .next (.app .here) | exact .next (.next (.app .here)) | exact .next (.next (.next (.app .here))) | exact .next (.next (.next (.next (.app .here))))) rfl ⟨_, rfl, rfl, rfl⟩ rfl rfl Try.underlying3 rfl rfl (by rfl) ?_
                refine G.bin rfl ⟨_, rfl, rfl, rfl⟩ rfl rfl rfl rfl rfl ?_
                first | refine G.pickT rfl trivial rfl rfl rfl rfl ?_ | refine G.pickF rfl trivial rfl rfl rfl rfl ?_
                refine G.assignB rfl trivial rfl rfl rfl ?_
                refine G.fix (d := 14) (v := .bool false) (by show Value.bool (decide (no ≤ 95)) = _; have h : 0 ≤ no := hg82; rw [decide_eq_false (by omega)]) ?_
                refine G.nil ?_
                refine C.cut (fun F D' L' => ∃ (mg : Int → Option (List UInt8)) (s : Seg) (ns : List (Option Bpg)), ShIs W0 bs mg (bookR ps bd) (bookSeg b31 ps bd) s ∧ NowIs ns mg ∧ F 1 = .slice (some ⟨p, o, none⟩) ops.length cap1 ∧ F 8 = ptr b31 ∧ F 10 = ptr bs ∧ F 11 = ptr b11 ∧ F 12 = .int .i64 (i : Int) ∧ F 13 = ptr b13 ∧ F 14 = .bool false ∧ D' = [] ∧ s :: nowSeg b11 ns :: [(b13, .row (sopC (kd, no, oa, oc, l)) 33 3)] :: [] = L') ?_ ?_
                ·
                  refine C.seq ?_
                  refine C.region ?_
                  refine G.fieldAddr rfl trivial rfl rfl Try.underlying33 rfl I3 rfl rfl ?_
                  refine G.loadAt (by first | exact .here | exact .next .here | exact .next (.next .here) | exact .next (.next (.next .here)) | exact .next (.next (.next (.next .here))) | exact .next (.next (.next (.next (.next .here)))) | exact .next (.next (.next (.next (.next (.next .here))))) | exact .next (.next (.next (.next (.next (.next (.next .here)))))) | exact .in1 | exact .next .in1 | exact .next (.next .in1) | exact .next (.next (.next .in1)) | exact .next (.next (.next (.next .in1))) | exact .in2 | exact .next .in2 | exact .next (.next .in2) | exact .next (.next (.next .in2)) | exact .next (.next (.next (.next .in2))) | exact .app .here | exact .app (.next .here) | exact .app (.next (.next .here)) | exact .app (.next (.next (.next .here))) | exact .app (.next (.next (.next (.next .here)))) | exact .app (.next (.next (.next (.next (.next .here))))) | exact .app (.next (.next (.next (.next (.next (.next .here)))))) | exact .app (.next (.next (.next (.next (.next (.next (.next .here))))))) | exact .app .in1 | exact .app .in2 | exact .app (.next .in1) | exact .next (.app .in1) | exact .next (.next (.app .in1)) | exact .next (.app .here) | exact .next (.next (.app .here)) | exact .next (.next (.next (.app .here))) | exact .next (.next (.next (.next (.app .here))))) rfl trivial rfl rfl Try.underlying3 rfl rfl (by rfl) ?_
                  refine G.bin rfl trivial rfl rfl rfl rfl rfl ?_
                  refine G.nil ?_
                  refine C.cond _ rfl ?_ ?_
                  · intro hc4
                    refine C.seq ?_
                    refine C.region ?_
                    refine G.fieldAddr rfl trivial rfl rfl Try.underlying33 rfl I22 rfl rfl ?_
                    refine G.loadAt (by first | exact .here | exact .next .here | exact .next (.next .here) | exact .next (.next (.next .here)) | exact .next (.next (.next (.next .here))) | exact .next (.next (.next (.next (.next .here)))) | exact .next (.next (.next (.next (.next (.next .here))))) | exact .next (.next (.next (.next (.next (.next (.next .here)))))) | exact .in1 | exact .next .in1 | exact .next (.next .in1) | exact .next (.next (.next .in1)) | exact .next (.next (.next (.next .in1))) | exact .in2 | exact .next .in2 | exact .next (.next .in2) | exact .next (.next (.next .in2)) | exact .next (.next (.next (.next .in2))) | exact .app .here | exact .app (.next .here) | exact .app (.next (.next .here)) | exact .app (.next (.next (.next .here))) | exact .app (.next (.next (.next (.next .here)))) | exact .app (.next (.next (.next (.next (.next .here))))) | exact .app (.next (.next (.next (.next (.next (.next .here)))))) | exact .app (.next (.next (.next (.next (.next (.next (.next .here))))))) | exact .app .in1 | exact .app .in2 | exact .app (.next .in1) | exact .next (.app .in1) | exact .next (.next (.app .in1)) | exact .next (.app .here) | exact .next (.next (.app .here)) | exact .next (.next (.next (.app .here))) | exact .next (.next (.next (.next (.app .here))))) rfl trivial rfl rfl Try.underlying22 rfl rfl (by rfl) ?_
                    refine G.assignS rfl trivial rfl rfl rfl ?_
                    refine G.nil ?_
                    refine C.cut (fun F D' L' => ∃ (pa : Option Addr) (pc : Nat) (pl : List UInt8) (sp : Seg), (∀ L, Rd W0 (sp :: L) pa (bytesV pl)) ∧ pl.length ≤ 9223372036854775807 ∧ F 1 = .slice (some ⟨p, o, none⟩) ops.length cap1 ∧ F 8 = ptr b31 ∧ F 10 = ptr bs ∧ F 11 = ptr b11 ∧ F 12 = .int .i64 (i : Int) ∧ F 13 = ptr b13 ∧ F 14 = .bool false ∧ F 15 = .slice pa pl.length pc ∧ D' = [] ∧ sp :: s :: nowSeg b11 ns :: [(b13, .row (sopC (kd, no, oa, oc, l)) 33 3)] :: [] = L') ?_ ?_
                    ·
                      refine C.seq ?_
                      refine C.region ?_
                      refine G.moveS rfl trivial rfl rfl rfl ?_
                      refine G.lenSlice rfl trivial rfl rfl Try.underlying22 rfl ?_
                      refine G.bin rfl trivial rfl rfl rfl rfl rfl ?_
                      refine G.moveB rfl trivial rfl rfl rfl ?_
                      refine G.fork (t := 95) _ rfl ?_ ?_
                      · intro hg95
                        refine G.moveS rfl ⟨_, rfl, rfl, rfl⟩ rfl rfl rfl ?_
                        refine G.lenSlice rfl ⟨_, rfl, rfl, rfl⟩ rfl rfl Try.underlying22 rfl ?_
                        refine G.bin rfl ⟨_, rfl, rfl, rfl⟩ rfl rfl rfl rfl rfl ?_
                        first | refine G.pickT rfl trivial rfl rfl rfl rfl ?_ | refine G.pickF rfl trivial rfl rfl rfl rfl ?_
                        refine G.nil ?_
                        refine C.cond _ rfl ?_ ?_
                        · intro hc5
                          refine C.region ?_
                          refine G.moveS rfl trivial rfl rfl rfl ?_
                          refine G.call E10 rfl rfl trivial rfl rfl (of_spec W0 _ oa oc l (fun s => hor _)) rfl ?_
                          rintro e L2 ⟨bp, rfl, rfl⟩
                          refine G.assignS rfl trivial rfl rfl rfl ?_
                          refine G.nil ?_
                          exact ⟨some ⟨bp, 0, none⟩, 256, ofB l, _, fun L => Rd.row0 .here, by rw [ofB_length]; decide, rfl, rfl, rfl, rfl, rfl, rfl, rfl, by rw [ofB_length]; rfl, rfl, rfl⟩
                        · intro hc5
                          refine C.less (fun _ h => h.empty) ?_
                          refine C.skip ?_
                          exact ⟨oa, oc, l, [], fun L => hor _, by omega, rfl, rfl, rfl, rfl, rfl, rfl, rfl, rfl, rfl, rfl⟩
                      · intro hg95
                        refine G.skip rfl rfl rfl rfl rfl rfl ?_
                        refine G.skip rfl rfl rfl rfl rfl rfl ?_
                        refine G.skip rfl rfl rfl rfl rfl rfl ?_
                        first | refine G.pickT rfl trivial rfl rfl rfl rfl ?_ | refine G.pickF rfl trivial rfl rfl rfl rfl ?_
                        refine G.less (fun _ h => h.empty) ?_
                        refine G.nil ?_
                        refine C.condF rfl ?_
                        refine C.skip ?_
                        exact ⟨oa, oc, l, [], fun L => hor _, by omega, rfl, rfl, rfl, rfl, rfl, rfl, rfl, rfl, rfl, rfl⟩
                    ·
                      rintro F D' L' ⟨pa, pc, pl, sp, hpr, hpl, h1', h8, h10, h11, h12, h13, h14, h15, rfl, rfl⟩
                      refine C.fix (d := 1) h1' ?_
                      refine C.fix (d := 8) h8 ?_
                      refine C.fix (d := 10) h10 ?_
                      refine C.fix (d := 11) h11 ?_
                      refine C.fix (d := 12) h12 ?_
                      refine C.fix (d := 13) h13 ?_
                      refine C.fix (d := 14) h14 ?_
                      refine C.fix (d := 15) h15 ?_
                      refine C.seq ?_
                      refine C.region ?_
                      refine G.assignI rfl trivial rfl rfl rfl ?_
                      refine G.nil ?_
                      refine C.seq ?_
                      refine C.seq ?_
                      refine C.region ?_
                      refine G.moveB rfl trivial rfl rfl rfl ?_
                      first | refine G.notD rfl trivial rfl rfl rfl ?_ | refine G.not rfl trivial rfl rfl rfl ?_
                      refine G.nil ?_
                      refine C.condT rfl ?_
                      refine C.region ?_
                      refine G.assignI rfl trivial rfl rfl rfl ?_
                      refine G.nil ?_
                      refine C.seq ?_
                      refine C.region ?_
                      refine G.moveP rfl trivial rfl rfl rfl ?_
                      refine G.fieldAddr rfl trivial rfl rfl Try.underlying33 rfl I3 rfl rfl ?_
                      refine G.loadAt (by first | exact .here | exact .next .here | exact .next (.next .here) | exact .next (.next (.next .here)) | exact .next (.next (.next (.next .here))) | exact .next (.next (.next (.next (.next .here)))) | exact .next (.next (.next (.next (.next (.next .here))))) | exact .next (.next (.next (.next (.next (.next (.next .here)))))) | exact .in1 | exact .next .in1 | exact .next (.next .in1) | exact .next (.next (.next .in1)) | exact .next (.next (.next (.next .in1))) | exact .in2 | exact .next .in2 | exact .next (.next .in2) | exact .next (.next (.next .in2)) | exact .next (.next (.next (.next .in2))) | exact .app .here | exact .app (.next .here) | exact .app (.next (.next .here)) | exact .app (.next (.next (.next .here))) | exact .app (.next (.next (.next (.next .here)))) | exact .app (.next (.next (.next (.next (.next .here))))) | exact .app (.next (.next (.next (.next (.next (.next .here)))))) | exact .app (.next (.next (.next (.next (.next (.next (.next .here))))))) | exact .app .in1 | exact .app .in2 | exact .app (.next .in1) | exact .next (.app .in1) | exact .next (.next (.app .in1)) | exact .next (.app .here) | exact .next (.next (.app .here)) | exact .next (.next (.next (.app .here))) | exact .next (.next (.next (.next (.app .here))))) rfl trivial rfl rfl Try.underlying3 rfl rfl (by rfl) ?_
                      refine G.moveS rfl trivial rfl rfl rfl ?_
                      refine G.call E12 rfl rfl trivial rfl rfl (FnS.perm (sset_no W0 bs _ hsh no pa pc pl _ rfl 3 (setC_out hin) (by decide) (hpr _)) P2) rfl ?_
                      rintro e L2 ⟨s2, hsh2, rfl, rfl⟩
                      refine G.assignI rfl trivial rfl rfl rfl ?_
                      refine G.less (L' := s2 :: nowSeg b11 ns :: [(b13, .row (sopC (kd, no, oa, oc, l)) 33 3)] :: []) (fun _ h => h.skip1) ?_
                      refine G.nil ?_
                      refine C.seq ?_
                      refine C.seq ?_
                      refine C.region ?_
                      refine G.moveI rfl trivial rfl rfl rfl ?_
                      refine G.bin rfl trivial rfl rfl rfl rfl rfl ?_
                      refine G.moveI rfl trivial rfl rfl rfl ?_
                      refine G.bin rfl trivial rfl rfl rfl rfl rfl ?_
                      refine G.boolNe rfl trivial rfl rfl Try.underlying4 rfl rfl ?_
                      refine G.fix (d := 116) (v := .bool false) rfl ?_
                      refine G.moveB rfl trivial rfl rfl rfl ?_
                      refine G.moveB rfl ⟨_, rfl, rfl, rfl⟩ rfl rfl rfl ?_
                      refine G.moveB rfl ⟨_, rfl, rfl, rfl⟩ rfl rfl rfl ?_
                      refine G.skip rfl rfl rfl rfl rfl rfl ?_
                      refine G.skip rfl rfl rfl rfl rfl rfl ?_
                      refine G.skip rfl rfl rfl rfl rfl rfl ?_
                      first | refine G.pickT rfl ⟨_, rfl, rfl, rfl⟩ rfl rfl rfl rfl ?_ | refine G.pickF rfl ⟨_, rfl, rfl, rfl⟩ rfl rfl rfl rfl ?_
                      first | refine G.pickT rfl trivial rfl rfl rfl rfl ?_ | refine G.pickF rfl trivial rfl rfl rfl rfl ?_
                      refine G.nil ?_
                      refine C.condF rfl ?_
                      refine C.skip ?_
                      refine C.seq ?_
                      refine C.region ?_
                      refine G.moveI rfl trivial rfl rfl rfl ?_
                      refine G.bin rfl trivial rfl rfl rfl rfl rfl ?_
                      refine G.nil ?_
                      refine C.condF rfl ?_
                      refine C.skip ?_
                      exact ⟨mg, s2, ns, hsh2, hnw, rfl, rfl, rfl, rfl, rfl, rfl, rfl, rfl, rfl⟩
                  · intro hc4
                    refine C.skip ?_
                    exact ⟨mg, s, ns, hsh, hnw, rfl, rfl, rfl, rfl, rfl, rfl, rfl, rfl, rfl⟩
                ·
                  rintro F D' L' ⟨mg, s, ns, hsh, hnw, h1', h8, h10, h11, h12, h13, h14, rfl, rfl⟩
                  refine C.fix (d := 1) h1' ?_
                  refine C.fix (d := 8) h8 ?_
                  refine C.fix (d := 10) h10 ?_
                  refine C.fix (d := 11) h11 ?_
                  refine C.fix (d := 12) h12 ?_
                  refine C.fix (d := 13) h13 ?_
                  refine C.fix (d := 14) h14 ?_
                  refine C.seq ?_
                  refine C.region ?_
                  refine G.moveP rfl trivial rfl rfl rfl ?_
                  refine G.fieldAddr rfl trivial rfl rfl Try.underlying33 rfl I3 rfl rfl ?_
                  refine G.loadAt (by first | exact .here | exact .next .here | exact .next (.next .here) | exact .next (.next (.next .here)) | exact .next (.next (.next (.next .here))) | exact .next (.next (.next (.next (.next .here)))) | exact .next (.next (.next (.next (.next (.next .here))))) | exact .next (.next (.next (.next (.next (.next (.next .here)))))) | exact .in1 | exact .next .in1 | exact .next (.next .in1) | exact .next (.next (.next .in1)) | exact .next (.next (.next (.next .in1))) | exact .in2 | exact .next .in2 | exact .next (.next .in2) | exact .next (.next (.next .in2)) | exact .next (.next (.next (.next .in2))) | exact .app .here | exact .app (.next .here) | exact .app (.next (.next .here)) | exact .app (.next (.next (.next .here))) | exact .app (.next (.next (.next (.next .here)))) | exact .app (.next (.next (.next (.next (.next .here))))) | exact .app (.next (.next (.next (.next (.next (.next .here)))))) | exact .app (.next (.next (.next (.next (.next (.next (.next .here))))))) | exact .app .in1 | exact .app .in2 | exact .app (.next .in1) | exact .next (.app .in1) | exact .next (.next (.app .in1)) | exact .next (.app .here) | exact .next (.next (.app .here)) | exact .next (.next (.next (.app .here))) | exact .next (.next (.next (.next (.app .here))))) rfl trivial rfl rfl Try.underlying3 rfl rfl (by rfl) ?_
                  refine G.call E13 rfl rfl trivial rfl rfl (spage_any W0 bs _ hsh no hno) rfl ?_
                  rintro e L2 ⟨a18, c18, so1, hr1, rfl, rfl⟩
                  refine G.moveU rfl trivial rfl rfl rfl ?_
                  refine G.extractL rfl trivial rfl rfl rfl rfl ?_
                  refine G.extractL rfl trivial rfl rfl rfl rfl ?_
                  refine G.assignS rfl trivial rfl rfl rfl ?_
                  refine G.assignI rfl trivial rfl rfl rfl ?_
                  refine G.nil ?_
                  refine C.seq ?_
                  refine C.region ?_
                  refine G.moveP rfl trivial rfl rfl rfl ?_
                  refine G.fieldAddr rfl trivial rfl rfl Try.underlying33 rfl I3 rfl rfl ?_
                  refine G.loadAt (by first | exact .here | exact .next .here | exact .next (.next .here) | exact .next (.next (.next .here)) | exact .next (.next (.next (.next .here))) | exact .next (.next (.next (.next (.next .here)))) | exact .next (.next (.next (.next (.next (.next .here))))) | exact .next (.next (.next (.next (.next (.next (.next .here)))))) | exact .in1 | exact .next .in1 | exact .next (.next .in1) | exact .next (.next (.next .in1)) | exact .next (.next (.next (.next .in1))) | exact .in2 | exact .next .in2 | exact .next (.next .in2) | exact .next (.next (.next .in2)) | exact .next (.next (.next (.next .in2))) | exact .app .here | exact .app (.next .here) | exact .app (.next (.next .here)) | exact .app (.next (.next (.next .here))) | exact .app (.next (.next (.next (.next .here)))) | exact .app (.next (.next (.next (.next (.next .here))))) | exact .app (.next (.next (.next (.next (.next (.next .here)))))) | exact .app (.next (.next (.next (.next (.next (.next (.next .here))))))) | exact .app .in1 | exact .app .in2 | exact .app (.next .in1) | exact .next (.app .in1) | exact .next (.next (.app .in1)) | exact .next (.app .here) | exact .next (.next (.app .here)) | exact .next (.next (.next (.app .here))) | exact .next (.next (.next (.next (.app .here))))) rfl trivial rfl rfl Try.underlying3 rfl rfl (by rfl) ?_
                  refine G.call E14 rfl rfl trivial rfl rfl (FnS.perm (inner_any W0 bs _ hsh hsrc no hno) P2) rfl ?_
                  rintro e L2 ⟨a20, c20, so2, hr2, rfl, rfl⟩
                  refine G.moveU rfl trivial rfl rfl rfl ?_
                  refine G.extractL rfl trivial rfl rfl rfl rfl ?_
                  refine G.extractL rfl trivial rfl rfl rfl rfl ?_
                  refine G.assignS rfl trivial rfl rfl rfl ?_
                  refine G.assignI rfl trivial rfl rfl rfl ?_
                  refine G.nil ?_
                  refine C.cut (fun F D' L' => ∃ (ya : Option Addr) (yc : Nat), (Rd W0 (so2 :: s :: so1 :: nowSeg b11 ns :: [(b13, .row (sopC (kd, no, oa, oc, l)) 33 3)] :: []) ya (bytesV (ansB (shR mg (bookR ps bd) no)))) ∧ F 1 = .slice (some ⟨p, o, none⟩) ops.length cap1 ∧ F 8 = ptr b31 ∧ F 10 = ptr bs ∧ F 11 = ptr b11 ∧ F 12 = .int .i64 (i : Int) ∧ F 18 = .slice a18 (ansB (shR mg (bookR ps bd) no)).length c18 ∧ F 19 = .int .i64 (ansC (shR mg (bookR ps bd) no)) ∧ F 20 = .slice ya (ansB (shR mg (bookR ps bd) no)).length yc ∧ F 21 = .int .i64 (ansC (shR mg (bookR ps bd) no)) ∧ D' = [] ∧ so2 :: s :: so1 :: nowSeg b11 ns :: [(b13, .row (sopC (kd, no, oa, oc, l)) 33 3)] :: [] = L') ?_ ?_
                  ·
                    refine C.seq ?_
                    refine C.region ?_
                    refine G.moveB rfl trivial rfl rfl rfl ?_
                    refine G.moveB rfl trivial rfl rfl rfl ?_
                    refine G.skip rfl rfl rfl rfl rfl rfl ?_
                    refine G.skip rfl rfl rfl rfl rfl rfl ?_
                    refine G.skip rfl rfl rfl rfl rfl rfl ?_
                    refine G.skip rfl rfl rfl rfl rfl rfl ?_
                    refine G.skip rfl rfl rfl rfl rfl rfl ?_
                    first | refine G.pickT rfl trivial rfl rfl rfl rfl ?_ | refine G.pickF rfl trivial rfl rfl rfl rfl ?_
                    refine G.nil ?_
                    refine C.condF rfl ?_
                    refine C.skip ?_
                    have hmn : mg no = none := Classical.not_not.1 fun h => hin (hsh.rng.1 no h)
                    rw [shR_out hmn]
                    exact ⟨a20, c20, hr2 _ _, rfl, rfl, rfl, rfl, rfl, rfl, rfl, rfl, rfl, rfl, rfl⟩
                  ·
                    rintro F D' L' ⟨ya, yc, hry, h1', h8, h10, h11, h12, h18, h19, h20, h21, rfl, rfl⟩
                    refine C.fix (d := 1) h1' ?_
                    refine C.fix (d := 8) h8 ?_
                    refine C.fix (d := 10) h10 ?_
                    refine C.fix (d := 11) h11 ?_
                    refine C.fix (d := 12) h12 ?_
                    refine C.fix (d := 18) h18 ?_
                    refine C.fix (d := 19) h19 ?_
                    refine C.fix (d := 20) h20 ?_
                    refine C.fix (d := 21) h21 ?_
                    refine C.seq ?_
                    refine C.region ?_
                    refine G.moveI rfl trivial rfl rfl rfl ?_
                    refine G.moveI rfl trivial rfl rfl rfl ?_
                    refine G.bin rfl trivial rfl rfl rfl rfl rfl ?_
                    refine G.moveB rfl trivial rfl rfl rfl ?_
                    refine G.no (t := 161) rfl (by simp) ?_
                    refine G.moveS rfl ⟨_, rfl, rfl, rfl⟩ rfl rfl rfl ?_
                    refine G.bytesStr (ansB (shR mg (bookR ps bd) no)) rfl ⟨_, rfl, rfl, rfl⟩ rfl rfl Try.underlying22 Try.underlying5 Try.underlying9 rfl rfl ((hr1 _ _).cons.cons) ?_
                    refine G.moveS rfl ⟨_, rfl, rfl, rfl⟩ rfl rfl rfl ?_
                    refine G.bytesStr (ansB (shR mg (bookR ps bd) no)) rfl ⟨_, rfl, rfl, rfl⟩ rfl rfl Try.underlying22 Try.underlying5 Try.underlying9 rfl rfl hry ?_
                    refine G.strNe rfl ⟨_, rfl, rfl, rfl⟩ rfl rfl  rfl rfl ?_
                    first | refine G.pickT rfl trivial rfl rfl rfl rfl ?_ | refine G.pickF rfl trivial rfl rfl rfl rfl ?_
                    refine G.nil ?_
                    refine C.no rfl (by simp) ?_
                    refine C.skip ?_
                    refine C.region ?_
                    refine G.moveI rfl trivial rfl rfl rfl ?_
                    refine G.addN (j := 1) rfl trivial rfl rfl rfl rfl (by omega) ?_
                    refine G.assignI rfl trivial rfl rfl rfl ?_
                    refine G.less (L' := s :: nowSeg b11 ns :: []) (fun _ h => h.tail.skip1.fewer (by simp)) ?_
                    refine G.nil ?_
                    exact ⟨ops.length - (i + 1) + 0, by omega, i + 1, mg, s, ns, rfl, by omega, by omega, hsh, hnw, rfl, rfl, rfl, rfl, rfl, rfl, rfl⟩
              · intro hg82
                refine G.skip rfl rfl rfl rfl rfl rfl ?_
                refine G.skip rfl rfl rfl rfl rfl rfl ?_
                refine G.skip rfl rfl rfl rfl rfl rfl ?_
                first | refine G.pickT rfl trivial rfl rfl rfl rfl ?_ | refine G.pickF rfl trivial rfl rfl rfl rfl ?_
                refine G.assignB rfl trivial rfl rfl rfl ?_
                refine G.fix (d := 14) (v := .bool false) rfl ?_
                refine G.nil ?_
                refine C.cut (fun F D' L' => ∃ (mg : Int → Option (List UInt8)) (s : Seg) (ns : List (Option Bpg)), ShIs W0 bs mg (bookR ps bd) (bookSeg b31 ps bd) s ∧ NowIs ns mg ∧ F 1 = .slice (some ⟨p, o, none⟩) ops.length cap1 ∧ F 8 = ptr b31 ∧ F 10 = ptr bs ∧ F 11 = ptr b11 ∧ F 12 = .int .i64 (i : Int) ∧ F 13 = ptr b13 ∧ F 14 = .bool false ∧ D' = [] ∧ s :: nowSeg b11 ns :: [(b13, .row (sopC (kd, no, oa, oc, l)) 33 3)] :: [] = L') ?_ ?_
                ·
                  refine C.seq ?_
                  refine C.region ?_
                  refine G.fieldAddr rfl trivial rfl rfl Try.underlying33 rfl I3 rfl rfl ?_
                  refine G.loadAt (by first | exact .here | exact .next .here | exact .next (.next .here) | exact .next (.next (.next .here)) | exact .next (.next (.next (.next .here))) | exact .next (.next (.next (.next (.next .here)))) | exact .next (.next (.next (.next (.next (.next .here))))) | exact .next (.next (.next (.next (.next (.next (.next .here)))))) | exact .in1 | exact .next .in1 | exact .next (.next .in1) | exact .next (.next (.next .in1)) | exact .next (.next (.next (.next .in1))) | exact .in2 | exact .next .in2 | exact .next (.next .in2) | exact .next (.next (.next .in2)) | exact .next (.next (.next (.next .in2))) | exact .app .here | exact .app (.next .here) | exact .app (.next (.next .here)) | exact .app (.next (.next (.next .here))) | exact .app (.next (.next (.next (.next .here)))) | exact .app (.next (.next (.next (.next (.next .here))))) | exact .app (.next (.next (.next (.next (.next (.next .here)))))) | exact .app (.next (.next (.next (.next (.next (.next (.next .here))))))) | exact .app .in1 | exact .app .in2 | exact .app (.next .in1) | exact .next (.app .in1) | exact .next (.next (.app .in1)) | exact .next (.app .here) | exact .next (.next (.app .here)) | exact .next (.next (.next (.app .here))) | exact .next (.next (.next (.next (.app .here))))) rfl trivial rfl rfl Try.underlying3 rfl rfl (by rfl) ?_
                  refine G.bin rfl trivial rfl rfl rfl rfl rfl ?_
                  refine G.nil ?_
                  refine C.cond _ rfl ?_ ?_
                  · intro hc4
                    refine C.seq ?_
                    refine C.region ?_
                    refine G.fieldAddr rfl trivial rfl rfl Try.underlying33 rfl I22 rfl rfl ?_
                    refine G.loadAt (by first | exact .here | exact .next .here | exact .next (.next .here) | exact .next (.next (.next .here)) | exact .next (.next (.next (.next .here))) | exact .next (.next (.next (.next (.next .here)))) | exact .next (.next (.next (.next (.next (.next .here))))) | exact .next (.next (.next (.next (.next (.next (.next .here)))))) | exact .in1 | exact .next .in1 | exact .next (.next .in1) | exact .next (.next (.next .in1)) | exact .next (.next (.next (.next .in1))) | exact .in2 | exact .next .in2 | exact .next (.next .in2) | exact .next (.next (.next .in2)) | exact .next (.next (.next (.next .in2))) | exact .app .here | exact .app (.next .here) | exact .app (.next (.next .here)) | exact .app (.next (.next (.next .here))) | exact .app (.next (.next (.next (.next .here)))) | exact .app (.next (.next (.next (.next (.next .here))))) | exact .app (.next (.next (.next (.next (.next (.next .here)))))) | exact .app (.next (.next (.next (.next (.next (.next (.next .here))))))) | exact .app .in1 | exact .app .in2 | exact .app (.next .in1) | exact .next (.app .in1) | exact .next (.next (.app .in1)) | exact .next (.app .here) | exact .next (.next (.app .here)) | exact .next (.next (.next (.app .here))) | exact .next (.next (.next (.next (.app .here))))) rfl trivial rfl rfl Try.underlying22 rfl rfl (by rfl) ?_
                    refine G.assignS rfl trivial rfl rfl rfl ?_
                    refine G.nil ?_
                    refine C.cut (fun F D' L' => ∃ (pa : Option Addr) (pc : Nat) (pl : List UInt8) (sp : Seg), (∀ L, Rd W0 (sp :: L) pa (bytesV pl)) ∧ pl.length ≤ 9223372036854775807 ∧ F 1 = .slice (some ⟨p, o, none⟩) ops.length cap1 ∧ F 8 = ptr b31 ∧ F 10 = ptr bs ∧ F 11 = ptr b11 ∧ F 12 = .int .i64 (i : Int) ∧ F 13 = ptr b13 ∧ F 14 = .bool false ∧ F 15 = .slice pa pl.length pc ∧ D' = [] ∧ sp :: s :: nowSeg b11 ns :: [(b13, .row (sopC (kd, no, oa, oc, l)) 33 3)] :: [] = L') ?_ ?_
                    ·
                      refine C.seq ?_
                      refine C.region ?_
                      refine G.moveS rfl trivial rfl rfl rfl ?_
                      refine G.lenSlice rfl trivial rfl rfl Try.underlying22 rfl ?_
                      refine G.bin rfl trivial rfl rfl rfl rfl rfl ?_
                      refine G.moveB rfl trivial rfl rfl rfl ?_
                      refine G.fork (t := 95) _ rfl ?_ ?_
                      · intro hg95
                        refine G.moveS rfl ⟨_, rfl, rfl, rfl⟩ rfl rfl rfl ?_
                        refine G.lenSlice rfl ⟨_, rfl, rfl, rfl⟩ rfl rfl Try.underlying22 rfl ?_
                        refine G.bin rfl ⟨_, rfl, rfl, rfl⟩ rfl rfl rfl rfl rfl ?_
                        first | refine G.pickT rfl trivial rfl rfl rfl rfl ?_ | refine G.pickF rfl trivial rfl rfl rfl rfl ?_
                        refine G.nil ?_
                        refine C.cond _ rfl ?_ ?_
                        · intro hc5
                          refine C.region ?_
                          refine G.moveS rfl trivial rfl rfl rfl ?_
                          refine G.call E10 rfl rfl trivial rfl rfl (of_spec W0 _ oa oc l (fun s => hor _)) rfl ?_
                          rintro e L2 ⟨bp, rfl, rfl⟩
                          refine G.assignS rfl trivial rfl rfl rfl ?_
                          refine G.nil ?_
                          exact ⟨some ⟨bp, 0, none⟩, 256, ofB l, _, fun L => Rd.row0 .here, by rw [ofB_length]; decide, rfl, rfl, rfl, rfl, rfl, rfl, rfl, by rw [ofB_length]; rfl, rfl, rfl⟩
                        · intro hc5
                          refine C.less (fun _ h => h.empty) ?_
                          refine C.skip ?_
                          exact ⟨oa, oc, l, [], fun L => hor _, by omega, rfl, rfl, rfl, rfl, rfl, rfl, rfl, rfl, rfl, rfl⟩
                      · intro hg95
                        refine G.skip rfl rfl rfl rfl rfl rfl ?_
                        refine G.skip rfl rfl rfl rfl rfl rfl ?_
                        refine G.skip rfl rfl rfl rfl rfl rfl ?_
                        first | refine G.pickT rfl trivial rfl rfl rfl rfl ?_ | refine G.pickF rfl trivial rfl rfl rfl rfl ?_
                        refine G.less (fun _ h => h.empty) ?_
                        refine G.nil ?_
                        refine C.condF rfl ?_
                        refine C.skip ?_
                        exact ⟨oa, oc, l, [], fun L => hor _, by omega, rfl, rfl, rfl, rfl, rfl, rfl, rfl, rfl, rfl, rfl⟩
                    ·
                      rintro F D' L' ⟨pa, pc, pl, sp, hpr, hpl, h1', h8, h10, h11, h12, h13, h14, h15, rfl, rfl⟩
                      refine C.fix (d := 1) h1' ?_
                      refine C.fix (d := 8) h8 ?_
                      refine C.fix (d := 10) h10 ?_
                      refine C.fix (d := 11) h11 ?_
                      refine C.fix (d := 12) h12 ?_
                      refine C.fix (d := 13) h13 ?_
                      refine C.fix (d := 14) h14 ?_
                      refine C.fix (d := 15) h15 ?_
                      refine C.seq ?_
                      refine C.region ?_
                      refine G.assignI rfl trivial rfl rfl rfl ?_
                      refine G.nil ?_
                      refine C.seq ?_
                      refine C.seq ?_
                      refine C.region ?_
                      refine G.moveB rfl trivial rfl rfl rfl ?_
                      first | refine G.notD rfl trivial rfl rfl rfl ?_ | refine G.not rfl trivial rfl rfl rfl ?_
                      refine G.nil ?_
                      refine C.condT rfl ?_
                      refine C.region ?_
                      refine G.assignI rfl trivial rfl rfl rfl ?_
                      refine G.nil ?_
                      refine C.seq ?_
                      refine C.region ?_
                      refine G.moveP rfl trivial rfl rfl rfl ?_
                      refine G.fieldAddr rfl trivial rfl rfl Try.underlying33 rfl I3 rfl rfl ?_
                      refine G.loadAt (by first | exact .here | exact .next .here | exact .next (.next .here) | exact .next (.next (.next .here)) | exact .next (.next (.next (.next .here))) | exact .next (.next (.next (.next (.next .here)))) | exact .next (.next (.next (.next (.next (.next .here))))) | exact .next (.next (.next (.next (.next (.next (.next .here)))))) | exact .in1 | exact .next .in1 | exact .next (.next .in1) | exact .next (.next (.next .in1)) | exact .next (.next (.next (.next .in1))) | exact .in2 | exact .next .in2 | exact .next (.next .in2) | exact .next (.next (.next .in2)) | exact .next (.next (.next (.next .in2))) | exact .app .here | exact .app (.next .here) | exact .app (.next (.next .here)) | exact .app (.next (.next (.next .here))) | exact .app (.next (.next (.next (.next .here)))) | exact .app (.next (.next (.next (.next (.next .here))))) | exact .app (.next (.next (.next (.next (.next (.next .here)))))) | exact .app (.next (.next (.next (.next (.next (.next (.next .here))))))) | exact .app .in1 | exact .app .in2 | exact .app (.next .in1) | exact .next (.app .in1) | exact .next (.next (.app .in1)) | exact .next (.app .here) | exact .next (.next (.app .here)) | exact .next (.next (.next (.app .here))) | exact .next (.next (.next (.next (.app .here))))) rfl trivial rfl rfl Try.underlying3 rfl rfl (by rfl) ?_
                      refine G.moveS rfl trivial rfl rfl rfl ?_
                      refine G.call E12 rfl rfl trivial rfl rfl (FnS.perm (sset_no W0 bs _ hsh no pa pc pl _ rfl 3 (setC_out hin) (by decide) (hpr _)) P2) rfl ?_
                      rintro e L2 ⟨s2, hsh2, rfl, rfl⟩
                      refine G.assignI rfl trivial rfl rfl rfl ?_
                      refine G.less (L' := s2 :: nowSeg b11 ns :: [(b13, .row (sopC (kd, no, oa, oc, l)) 33 3)] :: []) (fun _ h => h.skip1) ?_
                      refine G.nil ?_
                      refine C.seq ?_
                      refine C.seq ?_
                      refine C.region ?_
                      refine G.moveI rfl trivial rfl rfl rfl ?_
                      refine G.bin rfl trivial rfl rfl rfl rfl rfl ?_
                      refine G.moveI rfl trivial rfl rfl rfl ?_
                      refine G.bin rfl trivial rfl rfl rfl rfl rfl ?_
                      refine G.boolNe rfl trivial rfl rfl Try.underlying4 rfl rfl ?_
                      refine G.fix (d := 116) (v := .bool false) rfl ?_
                      refine G.moveB rfl trivial rfl rfl rfl ?_
                      refine G.moveB rfl ⟨_, rfl, rfl, rfl⟩ rfl rfl rfl ?_
                      refine G.moveB rfl ⟨_, rfl, rfl, rfl⟩ rfl rfl rfl ?_
                      refine G.skip rfl rfl rfl rfl rfl rfl ?_
                      refine G.skip rfl rfl rfl rfl rfl rfl ?_
                      refine G.skip rfl rfl rfl rfl rfl rfl ?_
                      first | refine G.pickT rfl ⟨_, rfl, rfl, rfl⟩ rfl rfl rfl rfl ?_ | refine G.pickF rfl ⟨_, rfl, rfl, rfl⟩ rfl rfl rfl rfl ?_
                      first | refine G.pickT rfl trivial rfl rfl rfl rfl ?_ | refine G.pickF rfl trivial rfl rfl rfl rfl ?_
                      refine G.nil ?_
                      refine C.condF rfl ?_
                      refine C.skip ?_
                      refine C.seq ?_
                      refine C.region ?_
                      refine G.moveI rfl trivial rfl rfl rfl ?_
                      refine G.bin rfl trivial rfl rfl rfl rfl rfl ?_
                      refine G.nil ?_
                      refine C.condF rfl ?_
                      refine C.skip ?_
                      exact ⟨mg, s2, ns, hsh2, hnw, rfl, rfl, rfl, rfl, rfl, rfl, rfl, rfl, rfl⟩
                  · intro hc4
                    refine C.skip ?_
                    exact ⟨mg, s, ns, hsh, hnw, rfl, rfl, rfl, rfl, rfl, rfl, rfl, rfl, rfl⟩
                ·
                  rintro F D' L' ⟨mg, s, ns, hsh, hnw, h1', h8, h10, h11, h12, h13, h14, rfl, rfl⟩
                  refine C.fix (d := 1) h1' ?_
                  refine C.fix (d := 8) h8 ?_
                  refine C.fix (d := 10) h10 ?_
                  refine C.fix (d := 11) h11 ?_
                  refine C.fix (d := 12) h12 ?_
                  refine C.fix (d := 13) h13 ?_
                  refine C.fix (d := 14) h14 ?_
                  refine C.seq ?_
                  refine C.region ?_
                  refine G.moveP rfl trivial rfl rfl rfl ?_
                  refine G.fieldAddr rfl trivial rfl rfl Try.underlying33 rfl I3 rfl rfl ?_
                  refine G.loadAt (by first | exact .here | exact .next .here | exact .next (.next .here) | exact .next (.next (.next .here)) | exact .next (.next (.next (.next .here))) | exact .next (.next (.next (.next (.next .here)))) | exact .next (.next (.next (.next (.next (.next .here))))) | exact .next (.next (.next (.next (.next (.next (.next .here)))))) | exact .in1 | exact .next .in1 | exact .next (.next .in1) | exact .next (.next (.next .in1)) | exact .next (.next (.next (.next .in1))) | exact .in2 | exact .next .in2 | exact .next (.next .in2) | exact .next (.next (.next .in2)) | exact .next (.next (.next (.next .in2))) | exact .app .here | exact .app (.next .here) | exact .app (.next (.next .here)) | exact .app (.next (.next (.next .here))) | exact .app (.next (.next (.next (.next .here)))) | exact .app (.next (.next (.next (.next (.next .here))))) | exact .app (.next (.next (.next (.next (.next (.next .here)))))) | exact .app (.next (.next (.next (.next (.next (.next (.next .here))))))) | exact .app .in1 | exact .app .in2 | exact .app (.next .in1) | exact .next (.app .in1) | exact .next (.next (.app .in1)) | exact .next (.app .here) | exact .next (.next (.app .here)) | exact .next (.next (.next (.app .here))) | exact .next (.next (.next (.next (.app .here))))) rfl trivial rfl rfl Try.underlying3 rfl rfl (by rfl) ?_
                  refine G.call E13 rfl rfl trivial rfl rfl (spage_any W0 bs _ hsh no hno) rfl ?_
                  rintro e L2 ⟨a18, c18, so1, hr1, rfl, rfl⟩
                  refine G.moveU rfl trivial rfl rfl rfl ?_
                  refine G.extractL rfl trivial rfl rfl rfl rfl ?_
                  refine G.extractL rfl trivial rfl rfl rfl rfl ?_
                  refine G.assignS rfl trivial rfl rfl rfl ?_
                  refine G.assignI rfl trivial rfl rfl rfl ?_
                  refine G.nil ?_
                  refine C.seq ?_
                  refine C.region ?_
                  refine G.moveP rfl trivial rfl rfl rfl ?_
                  refine G.fieldAddr rfl trivial rfl rfl Try.underlying33 rfl I3 rfl rfl ?_
                  refine G.loadAt (by first | exact .here | exact .next .here | exact .next (.next .here) | exact .next (.next (.next .here)) | exact .next (.next (.next (.next .here))) | exact .next (.next (.next (.next (.next .here)))) | exact .next (.next (.next (.next (.next (.next .here))))) | exact .next (.next (.next (.next (.next (.next (.next .here)))))) | exact .in1 | exact .next .in1 | exact .next (.next .in1) | exact .next (.next (.next .in1)) | exact .next (.next (.next (.next .in1))) | exact .in2 | exact .next .in2 | exact .next (.next .in2) | exact .next (.next (.next .in2)) | exact .next (.next (.next (.next .in2))) | exact .app .here | exact .app (.next .here) | exact .app (.next (.next .here)) | exact .app (.next (.next (.next .here))) | exact .app (.next (.next (.next (.next .here)))) | exact .app (.next (.next (.next (.next (.next .here))))) | exact .app (.next (.next (.next (.next (.next (.next .here)))))) | exact .app (.next (.next (.next (.next (.next (.next (.next .here))))))) | exact .app .in1 | exact .app .in2 | exact .app (.next .in1) | exact .next (.app .in1) | exact .next (.next (.app .in1)) | exact .next (.app .here) | exact .next (.next (.app .here)) | exact .next (.next (.next (.app .here))) | exact .next (.next (.next (.next (.app .here))))) rfl trivial rfl rfl Try.underlying3 rfl rfl (by rfl) ?_
                  refine G.call E14 rfl rfl trivial rfl rfl (FnS.perm (inner_any W0 bs _ hsh hsrc no hno) P2) rfl ?_
                  rintro e L2 ⟨a20, c20, so2, hr2, rfl, rfl⟩
                  refine G.moveU rfl trivial rfl rfl rfl ?_
                  refine G.extractL rfl trivial rfl rfl rfl rfl ?_
                  refine G.extractL rfl trivial rfl rfl rfl rfl ?_
                  refine G.assignS rfl trivial rfl rfl rfl ?_
                  refine G.assignI rfl trivial rfl rfl rfl ?_
                  refine G.nil ?_
                  refine C.cut (fun F D' L' => ∃ (ya : Option Addr) (yc : Nat), (Rd W0 (so2 :: s :: so1 :: nowSeg b11 ns :: [(b13, .row (sopC (kd, no, oa, oc, l)) 33 3)] :: []) ya (bytesV (ansB (shR mg (bookR ps bd) no)))) ∧ F 1 = .slice (some ⟨p, o, none⟩) ops.length cap1 ∧ F 8 = ptr b31 ∧ F 10 = ptr bs ∧ F 11 = ptr b11 ∧ F 12 = .int .i64 (i : Int) ∧ F 18 = .slice a18 (ansB (shR mg (bookR ps bd) no)).length c18 ∧ F 19 = .int .i64 (ansC (shR mg (bookR ps bd) no)) ∧ F 20 = .slice ya (ansB (shR mg (bookR ps bd) no)).length yc ∧ F 21 = .int .i64 (ansC (shR mg (bookR ps bd) no)) ∧ D' = [] ∧ so2 :: s :: so1 :: nowSeg b11 ns :: [(b13, .row (sopC (kd, no, oa, oc, l)) 33 3)] :: [] = L') ?_ ?_
                  ·
                    refine C.seq ?_
                    refine C.region ?_
                    refine G.moveB rfl trivial rfl rfl rfl ?_
                    refine G.moveB rfl trivial rfl rfl rfl ?_
                    refine G.skip rfl rfl rfl rfl rfl rfl ?_
                    refine G.skip rfl rfl rfl rfl rfl rfl ?_
                    refine G.skip rfl rfl rfl rfl rfl rfl ?_
                    refine G.skip rfl rfl rfl rfl rfl rfl ?_
                    refine G.skip rfl rfl rfl rfl rfl rfl ?_
                    first | refine G.pickT rfl trivial rfl rfl rfl rfl ?_ | refine G.pickF rfl trivial rfl rfl rfl rfl ?_
                    refine G.nil ?_
                    refine C.condF rfl ?_
                    refine C.skip ?_
                    have hmn : mg no = none := Classical.not_not.1 fun h => hin (hsh.rng.1 no h)
                    rw [shR_out hmn]
                    exact ⟨a20, c20, hr2 _ _, rfl, rfl, rfl, rfl, rfl, rfl, rfl, rfl, rfl, rfl, rfl⟩
                  ·
                    rintro F D' L' ⟨ya, yc, hry, h1', h8, h10, h11, h12, h18, h19, h20, h21, rfl, rfl⟩
                    refine C.fix (d := 1) h1' ?_
                    refine C.fix (d := 8) h8 ?_
                    refine C.fix (d := 10) h10 ?_
                    refine C.fix (d := 11) h11 ?_
                    refine C.fix (d := 12) h12 ?_
                    refine C.fix (d := 18) h18 ?_
                    refine C.fix (d := 19) h19 ?_
                    refine C.fix (d := 20) h20 ?_
                    refine C.fix (d := 21) h21 ?_
                    refine C.seq ?_
                    refine C.region ?_
                    refine G.moveI rfl trivial rfl rfl rfl ?_
                    refine G.moveI rfl trivial rfl rfl rfl ?_
                    refine G.bin rfl trivial rfl rfl rfl rfl rfl ?_
                    refine G.moveB rfl trivial rfl rfl rfl ?_
                    refine G.no (t := 161) rfl (by simp) ?_
                    refine G.moveS rfl ⟨_, rfl, rfl, rfl⟩ rfl rfl rfl ?_
                    refine G.bytesStr (ansB (shR mg (bookR ps bd) no)) rfl ⟨_, rfl, rfl, rfl⟩ rfl rfl Try.underlying22 Try.underlying5 Try.underlying9 rfl rfl ((hr1 _ _).cons.cons) ?_
                    refine G.moveS rfl ⟨_, rfl, rfl, rfl⟩ rfl rfl rfl ?_
                    refine G.bytesStr (ansB (shR mg (bookR ps bd) no)) rfl ⟨_, rfl, rfl, rfl⟩ rfl rfl Try.underlying22 Try.underlying5 Try.underlying9 rfl rfl hry ?_
                    refine G.strNe rfl ⟨_, rfl, rfl, rfl⟩ rfl rfl  rfl rfl ?_
                    first | refine G.pickT rfl trivial rfl rfl rfl rfl ?_ | refine G.pickF rfl trivial rfl rfl rfl rfl ?_
                    refine G.nil ?_
                    refine C.no rfl (by simp) ?_
                    refine C.skip ?_
                    refine C.region ?_
                    refine G.moveI rfl trivial rfl rfl rfl ?_
                    refine G.addN (j := 1) rfl trivial rfl rfl rfl rfl (by omega) ?_
                    refine G.assignI rfl trivial rfl rfl rfl ?_
                    refine G.less (L' := s :: nowSeg b11 ns :: []) (fun _ h => h.tail.skip1.fewer (by simp)) ?_
                    refine G.nil ?_
                    exact ⟨ops.length - (i + 1) + 0, by omega, i + 1, mg, s, ns, rfl, by omega, by omega, hsh, hnw, rfl, rfl, rfl, rfl, rfl, rfl, rfl⟩
          · intro hc3
            refine C.exit ?_
            refine C.seq ?_
            refine C.region ?_
            refine G.assignS rfl trivial rfl rfl rfl ?_
            refine G.nil ?_
            refine C.seq ?_
            refine C.seq ?_
            refine C.region ?_
            refine G.assignI rfl trivial rfl rfl rfl ?_
            refine G.less (fun _ h => h.empty) ?_
            refine G.nil ?_
            refine C.block ?_
            refine C.loop (fun m F D' L' => ∃ (k : Nat) (ims : List Im) (ao : Option Addr) (co : Nat) (so : Seg), m = 96 - k + 0 ∧ k ≤ 96 ∧ ims.length ≤ k ∧ ims.map imP = chK mg (bookR ps bd) k ∧ (∀ e ∈ ims, some e.2 ∈ ns) ∧ OwnS (.slice ao ims.length co) ims.length (ims.flatMap imC) 40 2 so ∧ F 8 = ptr b31 ∧ F 10 = ptr bs ∧ F 11 = ptr b11 ∧ F 22 = .slice ao ims.length co ∧ F 23 = .int .i64 (k : Int) ∧ D' = [] ∧ so :: s :: nowSeg b11 ns :: [] = L') ⟨_, ⟨0, [], none, 0, [], rfl, Nat.zero_le _, Nat.zero_le _, rfl, by simp, OwnS.nil _ _, rfl, rfl, rfl, rfl, rfl, rfl, rfl⟩⟩ ?_
            rintro m F D' L' ⟨k, ims, ao, co, so, rfl, hk, hil, him, hmem, hon, h8, h10, h11, h22, h23, rfl, rfl⟩
            refine C.fix (d := 8) h8 ?_
            refine C.fix (d := 10) h10 ?_
            refine C.fix (d := 11) h11 ?_
            refine C.fix (d := 22) h22 ?_
            refine C.fix (d := 23) h23 ?_
            refine C.seq ?_
            refine C.seq ?_
            refine C.region ?_
            refine G.moveI rfl trivial rfl rfl rfl ?_
            refine G.bin rfl trivial rfl rfl rfl rfl rfl ?_
            refine G.nil ?_
            refine C.cond _ rfl ?_ ?_
            · intro hc12
              have hk96 : k < 96 := by omega
              have hsl := slot_at (ns := ns) (k := k) (by have := hnw.1; omega)
              have hnv := hnw.2.2 k hk96
              refine C.skip ?_
              refine C.seq ?_
              refine C.block ?_
              refine C.seq ?_
              refine C.region ?_
              refine G.moveP rfl trivial rfl rfl rfl ?_
              refine G.moveI rfl trivial rfl rfl rfl ?_
              refine G.call E14 rfl rfl trivial rfl rfl (FnS.perm (inner_any W0 bs _ hsh hsrc (k : Int) (by omega)) P2) rfl ?_
              rintro e L2 ⟨a24, c24, so2, hr2, rfl, rfl⟩
              refine G.moveU rfl trivial rfl rfl rfl ?_
              refine G.extractL rfl trivial rfl rfl rfl rfl ?_
              refine G.extractL rfl trivial rfl rfl rfl rfl ?_
              refine G.assignS rfl trivial rfl rfl rfl ?_
              refine G.assignI rfl trivial rfl rfl rfl ?_
              refine G.nil ?_
              refine C.seq ?_
              refine C.drawn mixed (_) [] (fun _ h => h) ?_
              by_cases hsome : ∃ e, ns[k]! = some e
              ·
                obtain ⟨en, hen⟩ := hsome
                rw [hen] at hsl hnv
                have hmem2 : some en ∈ ns := by rw [← hen, getElem!_pos ns k (by have := hnw.1; omega)]; exact List.getElem_mem _
                refine GA.pure (i := 0) (fun _ _ _ _ _ h => h) rfl (by kernel_rfl) trivial rfl rfl (Y.moveI rfl rfl) (#[true, false, false, false, false, false, false, false, false, false, false, false, false, false, false, false, false]) (by kernel_rfl) ?_
                refine GA.pure (i := 1) (fun _ _ _ _ _ h => h) rfl (by kernel_rfl) trivial rfl rfl (Y.indexAddrArr rfl Try.underlying26 I22 rfl rfl (by omega)) (#[true, true, false, false, false, false, false, false, false, false, false, false, false, false, false, false, false]) (by kernel_rfl) ?_
                refine GA.read (i := 2) (fun _ _ _ _ _ h => h) rfl (by kernel_rfl) (by kernel_rfl) trivial rfl rfl (Y.loadAt (v := .slice (some ⟨en.1, 0, none⟩) en.2.2.2.length en.2.1) (.next (.next (.next .here))) rfl Try.underlying22 rfl rfl hsl) (#[true, true, true, false, false, false, false, false, false, false, false, false, false, false, false, false, false]) (by kernel_rfl) ?_
                refine GA.pure (i := 3) (fun _ _ _ _ _ h => h) rfl (by kernel_rfl) trivial rfl rfl (Y.slNe rfl Try.underlying22 rfl rfl) (#[true, true, true, true, false, false, false, false, false, false, false, false, false, false, false, false, false]) (by kernel_rfl) ?_
                refine GA.fix (d := 181) (v := .bool true) rfl ?_
                refine GA.pure (i := 4) (fun _ _ _ _ _ h => h) rfl (by kernel_rfl) trivial rfl rfl (Y.moveB rfl rfl) (#[true, true, true, true, true, false, false, false, false, false, false, false, false, false, false, false, false]) (by kernel_rfl) ?_
                refine GA.pure (i := 5) (fun _ _ _ _ _ h => h) rfl (by kernel_rfl) ⟨_, rfl, rfl, rfl⟩ rfl rfl (Y.moveI rfl rfl) (#[true, true, true, true, true, true, false, false, false, false, false, false, false, false, false, false, false]) (by kernel_rfl) ?_
                refine GA.pure (i := 6) (fun _ _ _ _ _ h => h) rfl (by kernel_rfl) ⟨_, rfl, rfl, rfl⟩ rfl rfl (Y.bin rfl rfl rfl rfl) (#[true, true, true, true, true, true, true, false, false, false, false, false, false, false, false, false, false]) (by kernel_rfl) ?_
                refine GA.pure (i := 7) (fun _ _ _ _ _ h => h) rfl (by kernel_rfl) ⟨_, rfl, rfl, rfl⟩ rfl rfl (Y.moveB rfl rfl) (#[true, true, true, true, true, true, true, true, false, false, false, false, false, false, false, false, false]) (by kernel_rfl) ?_
                refine GA.fork (t := 185) _ rfl ?_ ?_
                · intro hg185
                  refine GA.skip (i := 8) (fun _ _ _ _ _ h => h) rfl (by kernel_rfl) rfl rfl rfl rfl rfl rfl (#[true, true, true, true, true, true, true, true, true, false, false, false, false, false, false, false, false]) (by kernel_rfl) ?_
                  refine GA.skip (i := 9) (fun _ _ _ _ _ h => h) rfl (by kernel_rfl) rfl rfl rfl rfl rfl rfl (#[true, true, true, true, true, true, true, true, true, true, false, false, false, false, false, false, false]) (by kernel_rfl) ?_
                  refine GA.skip (i := 10) (fun _ _ _ _ _ h => h) rfl (by kernel_rfl) rfl rfl rfl rfl rfl rfl (#[true, true, true, true, true, true, true, true, true, true, true, false, false, false, false, false, false]) (by kernel_rfl) ?_
                  refine GA.skip (i := 11) (fun _ _ _ _ _ h => h) rfl (by kernel_rfl) rfl rfl rfl rfl rfl rfl (#[true, true, true, true, true, true, true, true, true, true, true, true, false, false, false, false, false]) (by kernel_rfl) ?_
                  refine GA.skip (i := 12) (fun _ _ _ _ _ h => h) rfl (by kernel_rfl) rfl rfl rfl rfl rfl rfl (#[true, true, true, true, true, true, true, true, true, true, true, true, true, false, false, false, false]) (by kernel_rfl) ?_
                  refine GA.skip (i := 13) (fun _ _ _ _ _ h => h) rfl (by kernel_rfl) rfl rfl rfl rfl rfl rfl (#[true, true, true, true, true, true, true, true, true, true, true, true, true, true, false, false, false]) (by kernel_rfl) ?_
                  refine GA.skip (i := 14) (fun _ _ _ _ _ h => h) rfl (by kernel_rfl) rfl rfl rfl rfl rfl rfl (#[true, true, true, true, true, true, true, true, true, true, true, true, true, true, true, false, false]) (by kernel_rfl) ?_
                  first | refine GA.pure (i := 15) (fun _ _ _ _ _ h => h) rfl (by kernel_rfl) ⟨_, rfl, rfl, rfl⟩ rfl rfl (Y.pickT rfl rfl rfl) (#[true, true, true, true, true, true, true, true, true, true, true, true, true, true, true, true, false]) (by kernel_rfl) ?_ | refine GA.pure (i := 15) (fun _ _ _ _ _ h => h) rfl (by kernel_rfl) ⟨_, rfl, rfl, rfl⟩ rfl rfl (Y.pickF rfl rfl rfl) (#[true, true, true, true, true, true, true, true, true, true, true, true, true, true, true, true, false]) (by kernel_rfl) ?_
                  first | refine GA.pure (i := 16) (fun _ _ _ _ _ h => h) rfl (by kernel_rfl) trivial rfl rfl (Y.pickT rfl rfl rfl) (#[true, true, true, true, true, true, true, true, true, true, true, true, true, true, true, true, true]) (by kernel_rfl) ?_ | refine GA.pure (i := 16) (fun _ _ _ _ _ h => h) rfl (by kernel_rfl) trivial rfl rfl (Y.pickF rfl rfl rfl) (#[true, true, true, true, true, true, true, true, true, true, true, true, true, true, true, true, true]) (by kernel_rfl) ?_
                  refine GA.done (by kernel_rfl) ?_
                  refine C.condT rfl ?_
                  refine C.region ?_
                  refine G.moveS rfl trivial rfl rfl rfl ?_
                  refine G.moveI rfl trivial rfl rfl rfl ?_
                  refine G.moveI rfl trivial rfl rfl rfl ?_
                  refine G.indexAddrArr rfl trivial rfl rfl Try.underlying26 I22 rfl rfl (by omega) ?_
                  refine G.loadAt (v := .slice (some ⟨en.1, 0, none⟩) en.2.2.2.length en.2.1) (.next (.next (.next .here))) rfl trivial rfl rfl Try.underlying22 rfl rfl hsl ?_
                  refine G.buildL (cs := imC ((k : Int), en)) rfl trivial rfl rfl Try.underlying40 I40 B40 rfl rfl ?_
                  refine G.buildSliceL (cs := imC ((k : Int), en)) (zs := [(.int .i64 0), (.slice none 0 0)]) rfl trivial rfl rfl Try.underlying38 I40 rfl (by kernel_rfl) rfl rfl ?_
                  intro b201
                  refine G.less (L' := so :: [(b201, .row (imC ((k : Int), en)) 40 2)] :: s :: nowSeg b11 ns :: []) (fun _ h => mem_app h) ?_
                  refine G.append hon rfl trivial rfl rfl Try.underlying38 Try.underlying38 I40 rfl (by decide) rfl rfl (by decide) (Rd.row0 (.next .here)) rfl (imC_ok _) (by omega) ?_
                  intro v202 s202 hv202
                  obtain ⟨a202, c202, rfl, _⟩ := hv202.form
                  refine G.assignS rfl trivial rfl rfl rfl ?_
                  refine G.less (L' := s202 :: s :: nowSeg b11 ns :: []) (fun _ h => h.skip1) ?_
                  refine G.nil ?_
                  refine C.region ?_
                  refine G.moveI rfl trivial rfl rfl rfl ?_
                  refine G.addN (j := 1) rfl trivial rfl rfl rfl rfl (by omega) ?_
                  refine G.assignI rfl trivial rfl rfl rfl ?_
                  refine G.nil ?_
                  have hch := chg_some (R := bookR ps bd) (no := (k : Int)) hnv.symm (.inl hg185)
                  have e1 : (ims ++ [((k : Int), en)]).length = ims.length + 1 := by simp
                  exact ⟨96 - (k + 1) + 0, by omega, k + 1, ims ++ [((k : Int), en)], a202, c202, s202, rfl, by omega, by omega, by rw [List.map_append, him, chK_succ, hch]; rfl, fun e he => (by rcases List.mem_append.1 he with he | he; exact hmem e he; rw [List.mem_singleton.1 he]; exact hmem2), by rw [e1, List.flatMap_append]; simpa using hv202, rfl, rfl, rfl, by rw [e1]; rfl, rfl, rfl, rfl⟩
                · intro hg185
                  refine GA.pure (i := 8) (fun _ _ _ _ _ h => h) rfl (by kernel_rfl) ⟨_, rfl, rfl, rfl⟩ rfl rfl (Y.moveI rfl rfl) (#[true, true, true, true, true, true, true, true, true, false, false, false, false, false, false, false, false]) (by kernel_rfl) ?_
                  refine GA.pure (i := 9) (fun _ _ _ _ _ h => h) rfl (by kernel_rfl) ⟨_, rfl, rfl, rfl⟩ rfl rfl (Y.indexAddrArr rfl Try.underlying26 I22 rfl rfl (by omega)) (#[true, true, true, true, true, true, true, true, true, true, false, false, false, false, false, false, false]) (by kernel_rfl) ?_
                  refine GA.read (i := 10) (fun _ _ _ _ _ h => h) rfl (by kernel_rfl) (by kernel_rfl) ⟨_, rfl, rfl, rfl⟩ rfl rfl (Y.loadAt (v := .slice (some ⟨en.1, 0, none⟩) en.2.2.2.length en.2.1) (.next (.next (.next .here))) rfl Try.underlying22 rfl rfl hsl) (#[true, true, true, true, true, true, true, true, true, true, true, false, false, false, false, false, false]) (by kernel_rfl) ?_
                  refine GA.read (i := 11) (fun _ _ _ _ _ h => h) rfl (by kernel_rfl) (by kernel_rfl) ⟨_, rfl, rfl, rfl⟩ rfl rfl (Y.bytesStr en.2.2.2 rfl Try.underlying22 Try.underlying5 Try.underlying9 rfl rfl ((now_rd hmem2 _).cons.cons.cons)) (#[true, true, true, true, true, true, true, true, true, true, true, true, false, false, false, false, false]) (by kernel_rfl) ?_
                  refine GA.pure (i := 12) (fun _ _ _ _ _ h => h) rfl (by kernel_rfl) ⟨_, rfl, rfl, rfl⟩ rfl rfl (Y.moveS rfl rfl) (#[true, true, true, true, true, true, true, true, true, true, true, true, true, false, false, false, false]) (by kernel_rfl) ?_
                  refine GA.read (i := 13) (fun _ _ _ _ _ h => h) rfl (by kernel_rfl) (by kernel_rfl) ⟨_, rfl, rfl, rfl⟩ rfl rfl (Y.bytesStr (ansB (bookR ps bd (k : Int))) rfl Try.underlying22 Try.underlying5 Try.underlying9 rfl rfl (hr2 _ _)) (#[true, true, true, true, true, true, true, true, true, true, true, true, true, true, false, false, false]) (by kernel_rfl) ?_
                  refine GA.pure (i := 14) (fun _ _ _ _ _ h => h) rfl (by kernel_rfl) ⟨_, rfl, rfl, rfl⟩ rfl rfl (Y.strNe rfl  rfl rfl) (#[true, true, true, true, true, true, true, true, true, true, true, true, true, true, true, false, false]) (by kernel_rfl) ?_
                  first | refine GA.pure (i := 15) (fun _ _ _ _ _ h => h) rfl (by kernel_rfl) ⟨_, rfl, rfl, rfl⟩ rfl rfl (Y.pickT rfl rfl rfl) (#[true, true, true, true, true, true, true, true, true, true, true, true, true, true, true, true, false]) (by kernel_rfl) ?_ | refine GA.pure (i := 15) (fun _ _ _ _ _ h => h) rfl (by kernel_rfl) ⟨_, rfl, rfl, rfl⟩ rfl rfl (Y.pickF rfl rfl rfl) (#[true, true, true, true, true, true, true, true, true, true, true, true, true, true, true, true, false]) (by kernel_rfl) ?_
                  first | refine GA.pure (i := 16) (fun _ _ _ _ _ h => h) rfl (by kernel_rfl) trivial rfl rfl (Y.pickT rfl rfl rfl) (#[true, true, true, true, true, true, true, true, true, true, true, true, true, true, true, true, true]) (by kernel_rfl) ?_ | refine GA.pure (i := 16) (fun _ _ _ _ _ h => h) rfl (by kernel_rfl) trivial rfl rfl (Y.pickF rfl rfl rfl) (#[true, true, true, true, true, true, true, true, true, true, true, true, true, true, true, true, true]) (by kernel_rfl) ?_
                  refine GA.done (by kernel_rfl) ?_
                  refine C.cond _ rfl ?_ ?_
                  · intro hc13
                    refine C.region ?_
                    refine G.moveS rfl trivial rfl rfl rfl ?_
                    refine G.moveI rfl trivial rfl rfl rfl ?_
                    refine G.moveI rfl trivial rfl rfl rfl ?_
                    refine G.indexAddrArr rfl trivial rfl rfl Try.underlying26 I22 rfl rfl (by omega) ?_
                    refine G.loadAt (v := .slice (some ⟨en.1, 0, none⟩) en.2.2.2.length en.2.1) (.next (.next (.next .here))) rfl trivial rfl rfl Try.underlying22 rfl rfl hsl ?_
                    refine G.buildL (cs := imC ((k : Int), en)) rfl trivial rfl rfl Try.underlying40 I40 B40 rfl rfl ?_
                    refine G.buildSliceL (cs := imC ((k : Int), en)) (zs := [(.int .i64 0), (.slice none 0 0)]) rfl trivial rfl rfl Try.underlying38 I40 rfl (by kernel_rfl) rfl rfl ?_
                    intro b201
                    refine G.less (L' := so :: [(b201, .row (imC ((k : Int), en)) 40 2)] :: s :: nowSeg b11 ns :: []) (fun _ h => mem_app h) ?_
                    refine G.append hon rfl trivial rfl rfl Try.underlying38 Try.underlying38 I40 rfl (by decide) rfl rfl (by decide) (Rd.row0 (.next .here)) rfl (imC_ok _) (by omega) ?_
                    intro v202 s202 hv202
                    obtain ⟨a202, c202, rfl, _⟩ := hv202.form
                    refine G.assignS rfl trivial rfl rfl rfl ?_
                    refine G.less (L' := s202 :: s :: nowSeg b11 ns :: []) (fun _ h => h.skip1) ?_
                    refine G.nil ?_
                    refine C.region ?_
                    refine G.moveI rfl trivial rfl rfl rfl ?_
                    refine G.addN (j := 1) rfl trivial rfl rfl rfl rfl (by omega) ?_
                    refine G.assignI rfl trivial rfl rfl rfl ?_
                    refine G.nil ?_
                    have hch := chg_some (R := bookR ps bd) (no := (k : Int)) hnv.symm (.inr fun h => hc13 (by rw [h]))
                    have e1 : (ims ++ [((k : Int), en)]).length = ims.length + 1 := by simp
                    exact ⟨96 - (k + 1) + 0, by omega, k + 1, ims ++ [((k : Int), en)], a202, c202, s202, rfl, by omega, by omega, by rw [List.map_append, him, chK_succ, hch]; rfl, fun e he => (by rcases List.mem_append.1 he with he | he; exact hmem e he; rw [List.mem_singleton.1 he]; exact hmem2), by rw [e1, List.flatMap_append]; simpa using hv202, rfl, rfl, rfl, by rw [e1]; rfl, rfl, rfl, rfl⟩
                  · intro hc13
                    refine C.skip ?_
                    refine C.region ?_
                    refine G.less (L' := so :: s :: nowSeg b11 ns :: []) (fun _ h => h.tail.perm2) ?_
                    refine G.moveI rfl trivial rfl rfl rfl ?_
                    refine G.addN (j := 1) rfl trivial rfl rfl rfl rfl (by omega) ?_
                    refine G.assignI rfl trivial rfl rfl rfl ?_
                    refine G.nil ?_
                    have hch := chg_no (R := bookR ps bd) (no := (k : Int)) hnv.symm (hse _) (Classical.not_not.1 hg185) (strB_inj.1 (Classical.not_not.1 hc13)).symm
                    exact ⟨96 - (k + 1) + 0, by omega, k + 1, ims, ao, co, so, rfl, by omega, by omega, by rw [him, chK_succ, hch]; simp, hmem, hon, rfl, rfl, rfl, rfl, rfl, rfl, rfl⟩
              ·
                have hen : ns[k]! = none := by
                  cases hq : ns[k]! with
                  | none => rfl
                  | some e => exact absurd ⟨e, hq⟩ hsome
                rw [hen] at hsl hnv
                refine GA.pure (i := 0) (fun _ _ _ _ _ h => h) rfl (by kernel_rfl) trivial rfl rfl (Y.moveI rfl rfl) (#[true, false, false, false, false, false, false, false, false, false, false, false, false, false, false, false, false]) (by kernel_rfl) ?_
                refine GA.pure (i := 1) (fun _ _ _ _ _ h => h) rfl (by kernel_rfl) trivial rfl rfl (Y.indexAddrArr rfl Try.underlying26 I22 rfl rfl (by omega)) (#[true, true, false, false, false, false, false, false, false, false, false, false, false, false, false, false, false]) (by kernel_rfl) ?_
                refine GA.read (i := 2) (fun _ _ _ _ _ h => h) rfl (by kernel_rfl) (by kernel_rfl) trivial rfl rfl (Y.loadAt (v := nilS) (.next (.next (.next .here))) rfl Try.underlying22 rfl rfl hsl) (#[true, true, true, false, false, false, false, false, false, false, false, false, false, false, false, false, false]) (by kernel_rfl) ?_
                refine GA.pure (i := 3) (fun _ _ _ _ _ h => h) rfl (by kernel_rfl) trivial rfl rfl (Y.slNe rfl Try.underlying22 rfl rfl) (#[true, true, true, true, false, false, false, false, false, false, false, false, false, false, false, false, false]) (by kernel_rfl) ?_
                refine GA.fix (d := 181) (v := .bool false) rfl ?_
                refine GA.pure (i := 4) (fun _ _ _ _ _ h => h) rfl (by kernel_rfl) trivial rfl rfl (Y.moveB rfl rfl) (#[true, true, true, true, true, false, false, false, false, false, false, false, false, false, false, false, false]) (by kernel_rfl) ?_
                refine GA.skip (i := 5) (fun _ _ _ _ _ h => h) rfl (by kernel_rfl) rfl rfl rfl rfl rfl rfl (#[true, true, true, true, true, true, false, false, false, false, false, false, false, false, false, false, false]) (by kernel_rfl) ?_
                refine GA.skip (i := 6) (fun _ _ _ _ _ h => h) rfl (by kernel_rfl) rfl rfl rfl rfl rfl rfl (#[true, true, true, true, true, true, true, false, false, false, false, false, false, false, false, false, false]) (by kernel_rfl) ?_
                refine GA.skip (i := 7) (fun _ _ _ _ _ h => h) rfl (by kernel_rfl) rfl rfl rfl rfl rfl rfl (#[true, true, true, true, true, true, true, true, false, false, false, false, false, false, false, false, false]) (by kernel_rfl) ?_
                refine GA.skipU (i := 8) (fun _ _ _ _ _ h => h) rfl (by kernel_rfl) rfl rfl rfl rfl rfl rfl (#[true, true, true, true, true, true, true, true, true, false, false, false, false, false, false, false, false]) (by kernel_rfl) ?_
                refine GA.skipU (i := 9) (fun _ _ _ _ _ h => h) rfl (by kernel_rfl) rfl rfl rfl rfl rfl rfl (#[true, true, true, true, true, true, true, true, true, true, false, false, false, false, false, false, false]) (by kernel_rfl) ?_
                refine GA.skipU (i := 10) (fun _ _ _ _ _ h => h) rfl (by kernel_rfl) rfl rfl rfl rfl rfl rfl (#[true, true, true, true, true, true, true, true, true, true, true, false, false, false, false, false, false]) (by kernel_rfl) ?_
                refine GA.skipU (i := 11) (fun _ _ _ _ _ h => h) rfl (by kernel_rfl) rfl rfl rfl rfl rfl rfl (#[true, true, true, true, true, true, true, true, true, true, true, true, false, false, false, false, false]) (by kernel_rfl) ?_
                refine GA.skipU (i := 12) (fun _ _ _ _ _ h => h) rfl (by kernel_rfl) rfl rfl rfl rfl rfl rfl (#[true, true, true, true, true, true, true, true, true, true, true, true, true, false, false, false, false]) (by kernel_rfl) ?_
                refine GA.skipU (i := 13) (fun _ _ _ _ _ h => h) rfl (by kernel_rfl) rfl rfl rfl rfl rfl rfl (#[true, true, true, true, true, true, true, true, true, true, true, true, true, true, false, false, false]) (by kernel_rfl) ?_
                refine GA.skipU (i := 14) (fun _ _ _ _ _ h => h) rfl (by kernel_rfl) rfl rfl rfl rfl rfl rfl (#[true, true, true, true, true, true, true, true, true, true, true, true, true, true, true, false, false]) (by kernel_rfl) ?_
                refine GA.skip (i := 15) (fun _ _ _ _ _ h => h) rfl (by kernel_rfl) rfl rfl rfl rfl rfl rfl (#[true, true, true, true, true, true, true, true, true, true, true, true, true, true, true, true, false]) (by kernel_rfl) ?_
                first | refine GA.pure (i := 16) (fun _ _ _ _ _ h => h) rfl (by kernel_rfl) trivial rfl rfl (Y.pickT rfl rfl rfl) (#[true, true, true, true, true, true, true, true, true, true, true, true, true, true, true, true, true]) (by kernel_rfl) ?_ | refine GA.pure (i := 16) (fun _ _ _ _ _ h => h) rfl (by kernel_rfl) trivial rfl rfl (Y.pickF rfl rfl rfl) (#[true, true, true, true, true, true, true, true, true, true, true, true, true, true, true, true, true]) (by kernel_rfl) ?_
                refine GA.done (by kernel_rfl) ?_
                refine C.condF rfl ?_
                refine C.skip ?_
                refine C.region ?_
                refine G.less (L' := so :: s :: nowSeg b11 ns :: []) (fun _ h => h.tail.perm2) ?_
                refine G.moveI rfl trivial rfl rfl rfl ?_
                refine G.addN (j := 1) rfl trivial rfl rfl rfl rfl (by omega) ?_
                refine G.assignI rfl trivial rfl rfl rfl ?_
                refine G.nil ?_
                have hch := chg1_none (R := bookR ps bd) (no := (k : Int)) hnv.symm
                exact ⟨96 - (k + 1) + 0, by omega, k + 1, ims, ao, co, so, rfl, by omega, by omega, by rw [him, chK_succ, hch]; simp, hmem, hon, rfl, rfl, rfl, rfl, rfl, rfl, rfl⟩
            · intro hc12
              obtain rfl : k = 96 := by omega
              obtain ⟨a9, c9, h9, hron⟩ := hon.form
              cases h9
              refine C.exit ?_
              refine C.seq ?_
              refine C.region ?_
              refine G.moveP rfl trivial rfl rfl rfl ?_
              refine G.call E16 rfl rfl trivial rfl rfl (FnS.perm (schanges_spec W0 bs _ hsh) P2) rfl ?_
              rintro e L2 ⟨ac, cc, s3, s4, hi204, rfl, rfl⟩
              obtain ⟨ims1, hm1, hcp1, hon1, rfl⟩ := hi204
              obtain ⟨az, cz, haz, hrd1⟩ := hon1.form
              simp only [Value.slice.injEq] at haz
              obtain ⟨rfl, hln, rfl⟩ := haz
              refine G.moveS rfl trivial rfl rfl rfl ?_
              refine G.call E15 rfl rfl trivial rfl rfl (eqIms_spec W0 _ ac ao cc co _ _ ims1 ims hln.symm rfl (hrd1 W0 _) ((hron W0 _).cons.cons.cons) (fun e he => (ims_rd he).cons) (fun e he => (now_rd (hmem e he) _).cons.cons.cons.cons) (by have h := congrArg List.length (hm1.trans him.symm); simp at h; omega) (hm1.trans him.symm)) rfl ?_
              rintro e L2 ⟨rfl, rfl⟩
              refine G.assignB rfl trivial rfl rfl rfl ?_
              refine G.nil ?_
              refine C.ret ?_
              -- end g45Tc2Fg69Tc3Fc12F
              exact ⟨rfl, _, Res.of (rs := [.tmp 6]) rfl rfl, rfl⟩
        · intro hg69
          refine G.skip rfl rfl rfl rfl rfl rfl ?_
          refine G.skip rfl rfl rfl rfl rfl rfl ?_
          first | refine G.pickT rfl trivial rfl rfl rfl rfl ?_ | refine G.pickF rfl trivial rfl rfl rfl rfl ?_
          refine G.nil ?_
          refine C.condF rfl ?_
          refine C.exit ?_
          refine C.seq ?_
          refine C.region ?_
          refine G.assignS rfl trivial rfl rfl rfl ?_
          refine G.nil ?_
          refine C.seq ?_
          refine C.seq ?_
          refine C.region ?_
          refine G.assignI rfl trivial rfl rfl rfl ?_
          refine G.less (fun _ h => h.empty) ?_
          refine G.nil ?_
          refine C.block ?_
          refine C.loop (fun m F D' L' => ∃ (k : Nat) (ims : List Im) (ao : Option Addr) (co : Nat) (so : Seg), m = 96 - k + 0 ∧ k ≤ 96 ∧ ims.length ≤ k ∧ ims.map imP = chK mg (bookR ps bd) k ∧ (∀ e ∈ ims, some e.2 ∈ ns) ∧ OwnS (.slice ao ims.length co) ims.length (ims.flatMap imC) 40 2 so ∧ F 8 = ptr b31 ∧ F 10 = ptr bs ∧ F 11 = ptr b11 ∧ F 22 = .slice ao ims.length co ∧ F 23 = .int .i64 (k : Int) ∧ D' = [] ∧ so :: s :: nowSeg b11 ns :: [] = L') ⟨_, ⟨0, [], none, 0, [], rfl, Nat.zero_le _, Nat.zero_le _, rfl, by simp, OwnS.nil _ _, rfl, rfl, rfl, rfl, rfl, rfl, rfl⟩⟩ ?_
          rintro m F D' L' ⟨k, ims, ao, co, so, rfl, hk, hil, him, hmem, hon, h8, h10, h11, h22, h23, rfl, rfl⟩
          refine C.fix (d := 8) h8 ?_
          refine C.fix (d := 10) h10 ?_
          refine C.fix (d := 11) h11 ?_
          refine C.fix (d := 22) h22 ?_
          refine C.fix (d := 23) h23 ?_
          refine C.seq ?_
          refine C.seq ?_
          refine C.region ?_
          refine G.moveI rfl trivial rfl rfl rfl ?_
          refine G.bin rfl trivial rfl rfl rfl rfl rfl ?_
          refine G.nil ?_
          refine C.cond _ rfl ?_ ?_
          · intro hc12
            have hk96 : k < 96 := by omega
            have hsl := slot_at (ns := ns) (k := k) (by have := hnw.1; omega)
            have hnv := hnw.2.2 k hk96
            refine C.skip ?_
            refine C.seq ?_
            refine C.block ?_
            refine C.seq ?_
            refine C.region ?_
            refine G.moveP rfl trivial rfl rfl rfl ?_
            refine G.moveI rfl trivial rfl rfl rfl ?_
            refine G.call E14 rfl rfl trivial rfl rfl (FnS.perm (inner_any W0 bs _ hsh hsrc (k : Int) (by omega)) P2) rfl ?_
            rintro e L2 ⟨a24, c24, so2, hr2, rfl, rfl⟩
            refine G.moveU rfl trivial rfl rfl rfl ?_
            refine G.extractL rfl trivial rfl rfl rfl rfl ?_
            refine G.extractL rfl trivial rfl rfl rfl rfl ?_
            refine G.assignS rfl trivial rfl rfl rfl ?_
            refine G.assignI rfl trivial rfl rfl rfl ?_
            refine G.nil ?_
            refine C.seq ?_
            refine C.drawn mixed (_) [] (fun _ h => h) ?_
            by_cases hsome : ∃ e, ns[k]! = some e
            ·
              obtain ⟨en, hen⟩ := hsome
              rw [hen] at hsl hnv
              have hmem2 : some en ∈ ns := by rw [← hen, getElem!_pos ns k (by have := hnw.1; omega)]; exact List.getElem_mem _
              refine GA.pure (i := 0) (fun _ _ _ _ _ h => h) rfl (by kernel_rfl) trivial rfl rfl (Y.moveI rfl rfl) (#[true, false, false, false, false, false, false, false, false, false, false, false, false, false, false, false, false]) (by kernel_rfl) ?_
              refine GA.pure (i := 1) (fun _ _ _ _ _ h => h) rfl (by kernel_rfl) trivial rfl rfl (Y.indexAddrArr rfl Try.underlying26 I22 rfl rfl (by omega)) (#[true, true, false, false, false, false, false, false, false, false, false, false, false, false, false, false, false]) (by kernel_rfl) ?_
              refine GA.read (i := 2) (fun _ _ _ _ _ h => h) rfl (by kernel_rfl) (by kernel_rfl) trivial rfl rfl (Y.loadAt (v := .slice (some ⟨en.1, 0, none⟩) en.2.2.2.length en.2.1) (.next (.next (.next .here))) rfl Try.underlying22 rfl rfl hsl) (#[true, true, true, false, false, false, false, false, false, false, false, false, false, false, false, false, false]) (by kernel_rfl) ?_
              refine GA.pure (i := 3) (fun _ _ _ _ _ h => h) rfl (by kernel_rfl) trivial rfl rfl (Y.slNe rfl Try.underlying22 rfl rfl) (#[true, true, true, true, false, false, false, false, false, false, false, false, false, false, false, false, false]) (by kernel_rfl) ?_
              refine GA.fix (d := 181) (v := .bool true) rfl ?_
              refine GA.pure (i := 4) (fun _ _ _ _ _ h => h) rfl (by kernel_rfl) trivial rfl rfl (Y.moveB rfl rfl) (#[true, true, true, true, true, false, false, false, false, false, false, false, false, false, false, false, false]) (by kernel_rfl) ?_
              refine GA.pure (i := 5) (fun _ _ _ _ _ h => h) rfl (by kernel_rfl) ⟨_, rfl, rfl, rfl⟩ rfl rfl (Y.moveI rfl rfl) (#[true, true, true, true, true, true, false, false, false, false, false, false, false, false, false, false, false]) (by kernel_rfl) ?_
              refine GA.pure (i := 6) (fun _ _ _ _ _ h => h) rfl (by kernel_rfl) ⟨_, rfl, rfl, rfl⟩ rfl rfl (Y.bin rfl rfl rfl rfl) (#[true, true, true, true, true, true, true, false, false, false, false, false, false, false, false, false, false]) (by kernel_rfl) ?_
              refine GA.pure (i := 7) (fun _ _ _ _ _ h => h) rfl (by kernel_rfl) ⟨_, rfl, rfl, rfl⟩ rfl rfl (Y.moveB rfl rfl) (#[true, true, true, true, true, true, true, true, false, false, false, false, false, false, false, false, false]) (by kernel_rfl) ?_
              refine GA.fork (t := 185) _ rfl ?_ ?_
              · intro hg185
                refine GA.skip (i := 8) (fun _ _ _ _ _ h => h) rfl (by kernel_rfl) rfl rfl rfl rfl rfl rfl (#[true, true, true, true, true, true, true, true, true, false, false, false, false, false, false, false, false]) (by kernel_rfl) ?_
                refine GA.skip (i := 9) (fun _ _ _ _ _ h => h) rfl (by kernel_rfl) rfl rfl rfl rfl rfl rfl (#[true, true, true, true, true, true, true, true, true, true, false, false, false, false, false, false, false]) (by kernel_rfl) ?_
                refine GA.skip (i := 10) (fun _ _ _ _ _ h => h) rfl (by kernel_rfl) rfl rfl rfl rfl rfl rfl (#[true, true, true, true, true, true, true, true, true, true, true, false, false, false, false, false, false]) (by kernel_rfl) ?_
                refine GA.skip (i := 11) (fun _ _ _ _ _ h => h) rfl (by kernel_rfl) rfl rfl rfl rfl rfl rfl (#[true, true, true, true, true, true, true, true, true, true, true, true, false, false, false, false, false]) (by kernel_rfl) ?_
                refine GA.skip (i := 12) (fun _ _ _ _ _ h => h) rfl (by kernel_rfl) rfl rfl rfl rfl rfl rfl (#[true, true, true, true, true, true, true, true, true, true, true, true, true, false, false, false, false]) (by kernel_rfl) ?_
                refine GA.skip (i := 13) (fun _ _ _ _ _ h => h) rfl (by kernel_rfl) rfl rfl rfl rfl rfl rfl (#[true, true, true, true, true, true, true, true, true, true, true, true, true, true, false, false, false]) (by kernel_rfl) ?_
                refine GA.skip (i := 14) (fun _ _ _ _ _ h => h) rfl (by kernel_rfl) rfl rfl rfl rfl rfl rfl (#[true, true, true, true, true, true, true, true, true, true, true, true, true, true, true, false, false]) (by kernel_rfl) ?_
                first | refine GA.pure (i := 15) (fun _ _ _ _ _ h => h) rfl (by kernel_rfl) ⟨_, rfl, rfl, rfl⟩ rfl rfl (Y.pickT rfl rfl rfl) (#[true, true, true, true, true, true, true, true, true, true, true, true, true, true, true, true, false]) (by kernel_rfl) ?_ | refine GA.pure (i := 15) (fun _ _ _ _ _ h => h) rfl (by kernel_rfl) ⟨_, rfl, rfl, rfl⟩ rfl rfl (Y.pickF rfl rfl rfl) (#[true, true, true, true, true, true, true, true, true, true, true, true, true, true, true, true, false]) (by kernel_rfl) ?_
                first | refine GA.pure (i := 16) (fun _ _ _ _ _ h => h) rfl (by kernel_rfl) trivial rfl rfl (Y.pickT rfl rfl rfl) (#[true, true, true, true, true, true, true, true, true, true, true, true, true, true, true, true, true]) (by kernel_rfl) ?_ | refine GA.pure (i := 16) (fun _ _ _ _ _ h => h) rfl (by kernel_rfl) trivial rfl rfl (Y.pickF rfl rfl rfl) (#[true, true, true, true, true, true, true, true, true, true, true, true, true, true, true, true, true]) (by kernel_rfl) ?_
                refine GA.done (by kernel_rfl) ?_
                refine C.condT rfl ?_
                refine C.region ?_
                refine G.moveS rfl trivial rfl rfl rfl ?_
                refine G.moveI rfl trivial rfl rfl rfl ?_
                refine G.moveI rfl trivial rfl rfl rfl ?_
                refine G.indexAddrArr rfl trivial rfl rfl Try.underlying26 I22 rfl rfl (by omega) ?_
                refine G.loadAt (v := .slice (some ⟨en.1, 0, none⟩) en.2.2.2.length en.2.1) (.next (.next (.next .here))) rfl trivial rfl rfl Try.underlying22 rfl rfl hsl ?_
                refine G.buildL (cs := imC ((k : Int), en)) rfl trivial rfl rfl Try.underlying40 I40 B40 rfl rfl ?_
                refine G.buildSliceL (cs := imC ((k : Int), en)) (zs := [(.int .i64 0), (.slice none 0 0)]) rfl trivial rfl rfl Try.underlying38 I40 rfl (by kernel_rfl) rfl rfl ?_
                intro b201
                refine G.less (L' := so :: [(b201, .row (imC ((k : Int), en)) 40 2)] :: s :: nowSeg b11 ns :: []) (fun _ h => mem_app h) ?_
                refine G.append hon rfl trivial rfl rfl Try.underlying38 Try.underlying38 I40 rfl (by decide) rfl rfl (by decide) (Rd.row0 (.next .here)) rfl (imC_ok _) (by omega) ?_
                intro v202 s202 hv202
                obtain ⟨a202, c202, rfl, _⟩ := hv202.form
                refine G.assignS rfl trivial rfl rfl rfl ?_
                refine G.less (L' := s202 :: s :: nowSeg b11 ns :: []) (fun _ h => h.skip1) ?_
                refine G.nil ?_
                refine C.region ?_
                refine G.moveI rfl trivial rfl rfl rfl ?_
                refine G.addN (j := 1) rfl trivial rfl rfl rfl rfl (by omega) ?_
                refine G.assignI rfl trivial rfl rfl rfl ?_
                refine G.nil ?_
                have hch := chg_some (R := bookR ps bd) (no := (k : Int)) hnv.symm (.inl hg185)
                have e1 : (ims ++ [((k : Int), en)]).length = ims.length + 1 := by simp
                exact ⟨96 - (k + 1) + 0, by omega, k + 1, ims ++ [((k : Int), en)], a202, c202, s202, rfl, by omega, by omega, by rw [List.map_append, him, chK_succ, hch]; rfl, fun e he => (by rcases List.mem_append.1 he with he | he; exact hmem e he; rw [List.mem_singleton.1 he]; exact hmem2), by rw [e1, List.flatMap_append]; simpa using hv202, rfl, rfl, rfl, by rw [e1]; rfl, rfl, rfl, rfl⟩
              · intro hg185
                refine GA.pure (i := 8) (fun _ _ _ _ _ h => h) rfl (by kernel_rfl) ⟨_, rfl, rfl, rfl⟩ rfl rfl (Y.moveI rfl rfl) (#[true, true, true, true, true, true, true, true, true, false, false, false, false, false, false, false, false]) (by kernel_rfl) ?_
                refine GA.pure (i := 9) (fun _ _ _ _ _ h => h) rfl (by kernel_rfl) ⟨_, rfl, rfl, rfl⟩ rfl rfl (Y.indexAddrArr rfl Try.underlying26 I22 rfl rfl (by omega)) (#[true, true, true, true, true, true, true, true, true, true, false, false, false, false, false, false, false]) (by kernel_rfl) ?_
                refine GA.read (i := 10) (fun _ _ _ _ _ h => h) rfl (by kernel_rfl) (by kernel_rfl) ⟨_, rfl, rfl, rfl⟩ rfl rfl (Y.loadAt (v := .slice (some ⟨en.1, 0, none⟩) en.2.2.2.length en.2.1) (.next (.next (.next .here))) rfl Try.underlying22 rfl rfl hsl) (#[true, true, true, true, true, true, true, true, true, true, true, false, false, false, false, false, false]) (by kernel_rfl) ?_
                refine GA.read (i := 11) (fun _ _ _ _ _ h => h) rfl (by kernel_rfl) (by kernel_rfl) ⟨_, rfl, rfl, rfl⟩ rfl rfl (Y.bytesStr en.2.2.2 rfl Try.underlying22 Try.underlying5 Try.underlying9 rfl rfl ((now_rd hmem2 _).cons.cons.cons)) (#[true, true, true, true, true, true, true, true, true, true, true, true, false, false, false, false, false]) (by kernel_rfl) ?_
                refine GA.pure (i := 12) (fun _ _ _ _ _ h => h) rfl (by kernel_rfl) ⟨_, rfl, rfl, rfl⟩ rfl rfl (Y.moveS rfl rfl) (#[true, true, true, true, true, true, true, true, true, true, true, true, true, false, false, false, false]) (by kernel_rfl) ?_
                refine GA.read (i := 13) (fun _ _ _ _ _ h => h) rfl (by kernel_rfl) (by kernel_rfl) ⟨_, rfl, rfl, rfl⟩ rfl rfl (Y.bytesStr (ansB (bookR ps bd (k : Int))) rfl Try.underlying22 Try.underlying5 Try.underlying9 rfl rfl (hr2 _ _)) (#[true, true, true, true, true, true, true, true, true, true, true, true, true, true, false, false, false]) (by kernel_rfl) ?_
                refine GA.pure (i := 14) (fun _ _ _ _ _ h => h) rfl (by kernel_rfl) ⟨_, rfl, rfl, rfl⟩ rfl rfl (Y.strNe rfl  rfl rfl) (#[true, true, true, true, true, true, true, true, true, true, true, true, true, true, true, false, false]) (by kernel_rfl) ?_
                first | refine GA.pure (i := 15) (fun _ _ _ _ _ h => h) rfl (by kernel_rfl) ⟨_, rfl, rfl, rfl⟩ rfl rfl (Y.pickT rfl rfl rfl) (#[true, true, true, true, true, true, true, true, true, true, true, true, true, true, true, true, false]) (by kernel_rfl) ?_ | refine GA.pure (i := 15) (fun _ _ _ _ _ h => h) rfl (by kernel_rfl) ⟨_, rfl, rfl, rfl⟩ rfl rfl (Y.pickF rfl rfl rfl) (#[true, true, true, true, true, true, true, true, true, true, true, true, true, true, true, true, false]) (by kernel_rfl) ?_
                first | refine GA.pure (i := 16) (fun _ _ _ _ _ h => h) rfl (by kernel_rfl) trivial rfl rfl (Y.pickT rfl rfl rfl) (#[true, true, true, true, true, true, true, true, true, true, true, true, true, true, true, true, true]) (by kernel_rfl) ?_ | refine GA.pure (i := 16) (fun _ _ _ _ _ h => h) rfl (by kernel_rfl) trivial rfl rfl (Y.pickF rfl rfl rfl) (#[true, true, true, true, true, true, true, true, true, true, true, true, true, true, true, true, true]) (by kernel_rfl) ?_
                refine GA.done (by kernel_rfl) ?_
                refine C.cond _ rfl ?_ ?_
                · intro hc13
                  refine C.region ?_
                  refine G.moveS rfl trivial rfl rfl rfl ?_
                  refine G.moveI rfl trivial rfl rfl rfl ?_
                  refine G.moveI rfl trivial rfl rfl rfl ?_
                  refine G.indexAddrArr rfl trivial rfl rfl Try.underlying26 I22 rfl rfl (by omega) ?_
                  refine G.loadAt (v := .slice (some ⟨en.1, 0, none⟩) en.2.2.2.length en.2.1) (.next (.next (.next .here))) rfl trivial rfl rfl Try.underlying22 rfl rfl hsl ?_
                  refine G.buildL (cs := imC ((k : Int), en)) rfl trivial rfl rfl Try.underlying40 I40 B40 rfl rfl ?_
                  refine G.buildSliceL (cs := imC ((k : Int), en)) (zs := [(.int .i64 0), (.slice none 0 0)]) rfl trivial rfl rfl Try.underlying38 I40 rfl (by kernel_rfl) rfl rfl ?_
                  intro b201
                  refine G.less (L' := so :: [(b201, .row (imC ((k : Int), en)) 40 2)] :: s :: nowSeg b11 ns :: []) (fun _ h => mem_app h) ?_
                  refine G.append hon rfl trivial rfl rfl Try.underlying38 Try.underlying38 I40 rfl (by decide) rfl rfl (by decide) (Rd.row0 (.next .here)) rfl (imC_ok _) (by omega) ?_
                  intro v202 s202 hv202
                  obtain ⟨a202, c202, rfl, _⟩ := hv202.form
                  refine G.assignS rfl trivial rfl rfl rfl ?_
                  refine G.less (L' := s202 :: s :: nowSeg b11 ns :: []) (fun _ h => h.skip1) ?_
                  refine G.nil ?_
                  refine C.region ?_
                  refine G.moveI rfl trivial rfl rfl rfl ?_
                  refine G.addN (j := 1) rfl trivial rfl rfl rfl rfl (by omega) ?_
                  refine G.assignI rfl trivial rfl rfl rfl ?_
                  refine G.nil ?_
                  have hch := chg_some (R := bookR ps bd) (no := (k : Int)) hnv.symm (.inr fun h => hc13 (by rw [h]))
                  have e1 : (ims ++ [((k : Int), en)]).length = ims.length + 1 := by simp
                  exact ⟨96 - (k + 1) + 0, by omega, k + 1, ims ++ [((k : Int), en)], a202, c202, s202, rfl, by omega, by omega, by rw [List.map_append, him, chK_succ, hch]; rfl, fun e he => (by rcases List.mem_append.1 he with he | he; exact hmem e he; rw [List.mem_singleton.1 he]; exact hmem2), by rw [e1, List.flatMap_append]; simpa using hv202, rfl, rfl, rfl, by rw [e1]; rfl, rfl, rfl, rfl⟩
                · intro hc13
                  refine C.skip ?_
                  refine C.region ?_
                  refine G.less (L' := so :: s :: nowSeg b11 ns :: []) (fun _ h => h.tail.perm2) ?_
                  refine G.moveI rfl trivial rfl rfl rfl ?_
                  refine G.addN (j := 1) rfl trivial rfl rfl rfl rfl (by omega) ?_
                  refine G.assignI rfl trivial rfl rfl rfl ?_
                  refine G.nil ?_
                  have hch := chg_no (R := bookR ps bd) (no := (k : Int)) hnv.symm (hse _) (Classical.not_not.1 hg185) (strB_inj.1 (Classical.not_not.1 hc13)).symm
                  exact ⟨96 - (k + 1) + 0, by omega, k + 1, ims, ao, co, so, rfl, by omega, by omega, by rw [him, chK_succ, hch]; simp, hmem, hon, rfl, rfl, rfl, rfl, rfl, rfl, rfl⟩
            ·
              have hen : ns[k]! = none := by
                cases hq : ns[k]! with
                | none => rfl
                | some e => exact absurd ⟨e, hq⟩ hsome
              rw [hen] at hsl hnv
              refine GA.pure (i := 0) (fun _ _ _ _ _ h => h) rfl (by kernel_rfl) trivial rfl rfl (Y.moveI rfl rfl) (#[true, false, false, false, false, false, false, false, false, false, false, false, false, false, false, false, false]) (by kernel_rfl) ?_
              refine GA.pure (i := 1) (fun _ _ _ _ _ h => h) rfl (by kernel_rfl) trivial rfl rfl (Y.indexAddrArr rfl Try.underlying26 I22 rfl rfl (by omega)) (#[true, true, false, false, false, false, false, false, false, false, false, false, false, false, false, false, false]) (by kernel_rfl) ?_
              refine GA.read (i := 2) (fun _ _ _ _ _ h => h) rfl (by kernel_rfl) (by kernel_rfl) trivial rfl rfl (Y.loadAt (v := nilS) (.next (.next (.next .here))) rfl Try.underlying22 rfl rfl hsl) (#[true, true, true, false, false, false, false, false, false, false, false, false, false, false, false, false, false]) (by kernel_rfl) ?_
              refine GA.pure (i := 3) (fun _ _ _ _ _ h => h) rfl (by kernel_rfl) trivial rfl rfl (Y.slNe rfl Try.underlying22 rfl rfl) (#[true, true, true, true, false, false, false, false, false, false, false, false, false, false, false, false, false]) (by kernel_rfl) ?_
              refine GA.fix (d := 181) (v := .bool false) rfl ?_
              refine GA.pure (i := 4) (fun _ _ _ _ _ h => h) rfl (by kernel_rfl) trivial rfl rfl (Y.moveB rfl rfl) (#[true, true, true, true, true, false, false, false, false, false, false, false, false, false, false, false, false]) (by kernel_rfl) ?_
              refine GA.skip (i := 5) (fun _ _ _ _ _ h => h) rfl (by kernel_rfl) rfl rfl rfl rfl rfl rfl (#[true, true, true, true, true, true, false, false, false, false, false, false, false, false, false, false, false]) (by kernel_rfl) ?_
              refine GA.skip (i := 6) (fun _ _ _ _ _ h => h) rfl (by kernel_rfl) rfl rfl rfl rfl rfl rfl (#[true, true, true, true, true, true, true, false, false, false, false, false, false, false, false, false, false]) (by kernel_rfl) ?_
              refine GA.skip (i := 7) (fun _ _ _ _ _ h => h) rfl (by kernel_rfl) rfl rfl rfl rfl rfl rfl (#[true, true, true, true, true, true, true, true, false, false, false, false, false, false, false, false, false]) (by kernel_rfl) ?_
              refine GA.skipU (i := 8) (fun _ _ _ _ _ h => h) rfl (by kernel_rfl) rfl rfl rfl rfl rfl rfl (#[true, true, true, true, true, true, true, true, true, false, false, false, false, false, false, false, false]) (by kernel_rfl) ?_
              refine GA.skipU (i := 9) (fun _ _ _ _ _ h => h) rfl (by kernel_rfl) rfl rfl rfl rfl rfl rfl (#[true, true, true, true, true, true, true, true, true, true, false, false, false, false, false, false, false]) (by kernel_rfl) ?_
              refine GA.skipU (i := 10) (fun _ _ _ _ _ h => h) rfl (by kernel_rfl) rfl rfl rfl rfl rfl rfl (#[true, true, true, true, true, true, true, true, true, true, true, false, false, false, false, false, false]) (by kernel_rfl) ?_
              refine GA.skipU (i := 11) (fun _ _ _ _ _ h => h) rfl (by kernel_rfl) rfl rfl rfl rfl rfl rfl (#[true, true, true, true, true, true, true, true, true, true, true, true, false, false, false, false, false]) (by kernel_rfl) ?_
              refine GA.skipU (i := 12) (fun _ _ _ _ _ h => h) rfl (by kernel_rfl) rfl rfl rfl rfl rfl rfl (#[true, true, true, true, true, true, true, true, true, true, true, true, true, false, false, false, false]) (by kernel_rfl) ?_
              refine GA.skipU (i := 13) (fun _ _ _ _ _ h => h) rfl (by kernel_rfl) rfl rfl rfl rfl rfl rfl (#[true, true, true, true, true, true, true, true, true, true, true, true, true, true, false, false, false]) (by kernel_rfl) ?_
              refine GA.skipU (i := 14) (fun _ _ _ _ _ h => h) rfl (by kernel_rfl) rfl rfl rfl rfl rfl rfl (#[true, true, true, true, true, true, true, true, true, true, true, true, true, true, true, false, false]) (by kernel_rfl) ?_
              refine GA.skip (i := 15) (fun _ _ _ _ _ h => h) rfl (by kernel_rfl) rfl rfl rfl rfl rfl rfl (#[true, true, true, true, true, true, true, true, true, true, true, true, true, true, true, true, false]) (by kernel_rfl) ?_
              first | refine GA.pure (i := 16) (fun _ _ _ _ _ h => h) rfl (by kernel_rfl) trivial rfl rfl (Y.pickT rfl rfl rfl) (#[true, true, true, true, true, true, true, true, true, true, true, true, true, true, true, true, true]) (by kernel_rfl) ?_ | refine GA.pure (i := 16) (fun _ _ _ _ _ h => h) rfl (by kernel_rfl) trivial rfl rfl (Y.pickF rfl rfl rfl) (#[true, true, true, true, true, true, true, true, true, true, true, true, true, true, true, true, true]) (by kernel_rfl) ?_
              refine GA.done (by kernel_rfl) ?_
              refine C.condF rfl ?_
              refine C.skip ?_
              refine C.region ?_
              refine G.less (L' := so :: s :: nowSeg b11 ns :: []) (fun _ h => h.tail.perm2) ?_
              refine G.moveI rfl trivial rfl rfl rfl ?_
              refine G.addN (j := 1) rfl trivial rfl rfl rfl rfl (by omega) ?_
              refine G.assignI rfl trivial rfl rfl rfl ?_
              refine G.nil ?_
              have hch := chg1_none (R := bookR ps bd) (no := (k : Int)) hnv.symm
              exact ⟨96 - (k + 1) + 0, by omega, k + 1, ims, ao, co, so, rfl, by omega, by omega, by rw [him, chK_succ, hch]; simp, hmem, hon, rfl, rfl, rfl, rfl, rfl, rfl, rfl⟩
          · intro hc12
            obtain rfl : k = 96 := by omega
            obtain ⟨a9, c9, h9, hron⟩ := hon.form
            cases h9
            refine C.exit ?_
            refine C.seq ?_
            refine C.region ?_
            refine G.moveP rfl trivial rfl rfl rfl ?_
            refine G.call E16 rfl rfl trivial rfl rfl (FnS.perm (schanges_spec W0 bs _ hsh) P2) rfl ?_
            rintro e L2 ⟨ac, cc, s3, s4, hi204, rfl, rfl⟩
            obtain ⟨ims1, hm1, hcp1, hon1, rfl⟩ := hi204
            obtain ⟨az, cz, haz, hrd1⟩ := hon1.form
            simp only [Value.slice.injEq] at haz
            obtain ⟨rfl, hln, rfl⟩ := haz
            refine G.moveS rfl trivial rfl rfl rfl ?_
            refine G.call E15 rfl rfl trivial rfl rfl (eqIms_spec W0 _ ac ao cc co _ _ ims1 ims hln.symm rfl (hrd1 W0 _) ((hron W0 _).cons.cons.cons) (fun e he => (ims_rd he).cons) (fun e he => (now_rd (hmem e he) _).cons.cons.cons.cons) (by have h := congrArg List.length (hm1.trans him.symm); simp at h; omega) (hm1.trans him.symm)) rfl ?_
            rintro e L2 ⟨rfl, rfl⟩
            refine G.assignB rfl trivial rfl rfl rfl ?_
            refine G.nil ?_
            refine C.ret ?_
            -- end g45Tc2Fg69Fc12F
            exact ⟨rfl, _, Res.of (rs := [.tmp 6]) rfl rfl, rfl⟩
    · intro hg45
      refine G.skip rfl rfl rfl rfl rfl rfl ?_
      refine G.skip rfl rfl rfl rfl rfl rfl ?_
      first | refine G.pickT rfl trivial rfl rfl rfl rfl ?_ | refine G.pickF rfl trivial rfl rfl rfl rfl ?_
      refine G.nil ?_
      refine C.condF rfl ?_
      refine C.exit ?_
      refine C.seq ?_
      refine C.region ?_
      have hsrc := book_src W0 b31 hbk
      have hse : ∀ no c, bookR ps bd no = .error c → c ≠ 0 := fun no c => hsrc.errs no c
      refine G.moveP rfl trivial rfl rfl rfl ?_
      refine G.makeInterface rfl trivial rfl rfl Try.underlying25 rfl ?_
      refine G.call E11 rfl rfl trivial rfl rfl (snew_spec W0 [] (.iface 25 (ptr b31)) _ _ (.some hsrc)) rfl ?_
      rintro e L2 ⟨bs, s1, hsh1, rfl, rfl⟩
      refine G.assignP rfl trivial rfl rfl rfl ?_
      refine G.nil ?_
      refine C.seq ?_
      refine C.region ?_
      refine G.allocC (cs := List.replicate 96 nilS) rfl trivial rfl rfl I26 (by kernel_rfl) ?_
      intro b11
      refine G.less (L' := s1 :: nowSeg b11 noPages :: []) (fun _ h => by unfold nowSeg; rw [noPages_slots, noPages_pool]; exact h.perm2) ?_
      refine G.nil ?_
      refine C.seq ?_
      refine C.seq ?_
      refine C.region ?_
      refine G.assignI rfl trivial rfl rfl rfl ?_
      refine G.nil ?_
      refine C.block ?_
      refine C.loop (fun m F D' L' => ∃ (i : Nat) (mg : Int → Option (List UInt8)) (s : Seg) (ns : List (Option Bpg)), m = ops.length - i + 0 ∧ i ≤ ops.length ∧ i ≤ 40 ∧ ShIs W0 bs mg (bookR ps bd) (bookSeg b31 ps bd) s ∧ NowIs ns mg ∧ F 1 = .slice a1 ops.length cap1 ∧ F 8 = ptr b31 ∧ F 10 = ptr bs ∧ F 11 = ptr b11 ∧ F 12 = .int .i64 (i : Int) ∧ D' = [] ∧ s :: nowSeg b11 ns :: [] = L') ⟨_, ⟨0, _, s1, noPages, rfl, Nat.zero_le _, Nat.zero_le _, hsh1, NowIs.none, rfl, rfl, rfl, rfl, rfl, rfl, rfl⟩⟩ ?_
      rintro m F D' L' ⟨i, mg, s, ns, rfl, hi, hi40, hsh, hnw, h1', h8, h10, h11, h12, rfl, rfl⟩
      refine C.fix (d := 1) h1' ?_
      refine C.fix (d := 8) h8 ?_
      refine C.fix (d := 10) h10 ?_
      refine C.fix (d := 11) h11 ?_
      refine C.fix (d := 12) h12 ?_
      refine C.seq ?_
      refine C.seq ?_
      refine C.region ?_
      refine G.moveI rfl trivial rfl rfl rfl ?_
      refine G.moveS rfl trivial rfl rfl rfl ?_
      refine G.lenSlice rfl trivial rfl rfl Try.underlying23 rfl ?_
      refine G.bin rfl trivial rfl rfl rfl rfl rfl ?_
      refine G.moveB rfl trivial rfl rfl rfl ?_
      refine G.fork (t := 69) _ rfl ?_ ?_
      · intro hg69
        refine G.moveI rfl ⟨_, rfl, rfl, rfl⟩ rfl rfl rfl ?_
        refine G.bin rfl ⟨_, rfl, rfl, rfl⟩ rfl rfl rfl rfl rfl ?_
        first | refine G.pickT rfl trivial rfl rfl rfl rfl ?_ | refine G.pickF rfl trivial rfl rfl rfl rfl ?_
        refine G.nil ?_
        refine C.cond _ rfl ?_ ?_
        · intro hc3
          have hlt : i < ops.length := by have h := hg69; omega
          obtain ⟨p, o, rfl, _⟩ := (hro []).some_ (by rw [chunk_length (k := 3) (fun _ _ => rfl)]; omega)
          refine C.skip ?_
          refine C.seq ?_
          refine C.block ?_
          refine C.seq ?_
          refine C.region ?_
          refine G.moveS rfl trivial rfl rfl rfl ?_
          refine G.moveI rfl trivial rfl rfl rfl ?_
          refine G.indexAddr rfl trivial rfl rfl Try.underlying23 I33 rfl rfl (by omega) ?_
          obtain ⟨hoc, hom, hno, hor⟩ := hwf _ (List.getElem_mem hlt)
          refine G.loadAgg (sopC ops[i]) rfl trivial rfl rfl Try.underlying33 rfl I33 rfl rfl (cellS hro hlt) ?_
          generalize ops[i] = op at hoc hom hno hor ⊢
          obtain ⟨kd, no, oa, oc, l⟩ := op
          simp only at hoc hom hno hor
          refine G.allocC (cs := [(.int .i64 0), (.int .i64 0), (.slice none 0 0)]) rfl trivial rfl rfl I33 rfl ?_
          intro b13
          refine G.stRow .here rfl trivial rfl I33 rfl rfl rfl (by rfl) (sopC_ok _) ?_
          refine G.less (L' := s :: nowSeg b11 ns :: [(b13, .row (sopC (kd, no, oa, oc, l)) 33 3)] :: []) (fun _ h => h.of_flat Q12) ?_
          refine G.nil ?_
          refine C.seq ?_
          refine C.region ?_
          refine G.fieldAddr rfl trivial rfl rfl Try.underlying33 rfl I3 rfl rfl ?_
          by_cases hin : 0 ≤ no ∧ no ≤ 95
          ·
            refine G.loadAt (by first | exact .here | exact .next .here | exact .next (.next .here) | exact .next (.next (.next .here)) | exact .next (.next (.next (.next .here))) | exact .next (.next (.next (.next (.next .here)))) | exact .next (.next (.next (.next (.next (.next .here))))) | exact .next (.next (.next (.next (.next (.next (.next .here)))))) | exact .in1 | exact .next .in1 | exact .next (.next .in1) | exact .next (.next (.next .in1)) | exact .next (.next (.next (.next .in1))) | exact .in2 | exact .next .in2 | exact .next (.next .in2) | exact .next (.next (.next .in2)) | exact .next (.next (.next (.next .in2))) | exact .app .here | exact .app (.next .here) | exact .app (.next (.next .here)) | exact .app (.next (.next (.next .here))) | exact .app (.next (.next (.next (.next .here)))) | exact .app (.next (.next (.next (.next (.next .here))))) | exact .app (.next (.next (.next (.next (.next (.next .here)))))) | exact .app (.next (.next (.next (.next (.next (.next (.next .here))))))) | exact .app .in1 | exact .app .in2 | exact .app (.next .in1) | exact .next (.app .in1) | exact .next (.next (.app .in1)) | exact .next (.app .here) | exact .next (.next (.app .here)) | exact .next (.next (.next (.app .here))) | exact .next (.next (.next (.next (.app .here))))) rfl trivial rfl rfl Try.underlying3 rfl rfl (by rfl) ?_
            refine G.bin rfl trivial rfl rfl rfl rfl rfl ?_
            refine G.moveB rfl trivial rfl rfl rfl ?_
            refine G.yes (t := 82) rfl (hin.1) ?_
            refine G.fieldAddr rfl ⟨_, rfl, rfl, rfl⟩ rfl rfl Try.underlying33 rfl I3 rfl rfl ?_
            refine G.loadAt (by first | exact .here | exact .next .here | exact .next (.next .here) | exact .next (.next (.next .here)) | exact .next (.next (.next (.next .here))) | exact .next (.next (.next (.next (.next .here)))) | exact .next (.next (.next (.next (.next (.next .here))))) | exact .next (.next (.next (.next (.next (.next (.next .here)))))) | exact .in1 | exact .next .in1 | exact .next (.next .in1) | exact .next (.next (.next .in1)) | exact .next (.next (.next (.next .in1))) | exact .in2 | exact .next .in2 | exact .next (.next .in2) | exact .next (.next (.next .in2)) | exact .next (.next (.next (.next .in2))) | exact .app .here | exact .app (.next .here) | exact .app (.next (.next .here)) | exact .app (.next (.next (.next .here))) | exact .app (.next (.next (.next (.next .here)))) | exact .app (.next (.next (.next (.next (.next .here))))) | exact .app (.next (.next (.next (.next (.next (.next .here)))))) | exact .app (.next (.next (.next (.next (.next (.next (.next .here))))))) | exact .app .in1 | exact .app .in2 | exact .app (.next .in1) | exact .next (.app .in1) | exact .next (.next (.app .in1)) | exact .next (.app .here) | exact .next (.next (.app .here)) | exact .next (.next (.next (.app .here))) | exact .next (.next (.next (.next (.app .here))))) rfl ⟨_, rfl, rfl, rfl⟩ rfl rfl Try.underlying3 rfl rfl (by rfl) ?_
            refine G.bin rfl ⟨_, rfl, rfl, rfl⟩ rfl rfl rfl rfl rfl ?_
            first | refine G.pickT rfl trivial rfl rfl rfl rfl ?_ | refine G.pickF rfl trivial rfl rfl rfl rfl ?_
            refine G.assignB rfl trivial rfl rfl rfl ?_
            refine G.fix (d := 14) (v := .bool true) (by show Value.bool (decide _) = _; rw [decide_eq_true hin.2]) ?_
            refine G.nil ?_
            refine C.cut (fun F D' L' => ∃ (mg : Int → Option (List UInt8)) (s : Seg) (ns : List (Option Bpg)), ShIs W0 bs mg (bookR ps bd) (bookSeg b31 ps bd) s ∧ NowIs ns mg ∧ F 1 = .slice (some ⟨p, o, none⟩) ops.length cap1 ∧ F 8 = ptr b31 ∧ F 10 = ptr bs ∧ F 11 = ptr b11 ∧ F 12 = .int .i64 (i : Int) ∧ F 13 = ptr b13 ∧ F 14 = .bool true ∧ D' = [] ∧ s :: nowSeg b11 ns :: [(b13, .row (sopC (kd, no, oa, oc, l)) 33 3)] :: [] = L') ?_ ?_
            ·
              refine C.seq ?_
              refine C.region ?_
              refine G.fieldAddr rfl trivial rfl rfl Try.underlying33 rfl I3 rfl rfl ?_
              refine G.loadAt (by first | exact .here | exact .next .here | exact .next (.next .here) | exact .next (.next (.next .here)) | exact .next (.next (.next (.next .here))) | exact .next (.next (.next (.next (.next .here)))) | exact .next (.next (.next (.next (.next (.next .here))))) | exact .next (.next (.next (.next (.next (.next (.next .here)))))) | exact .in1 | exact .next .in1 | exact .next (.next .in1) | exact .next (.next (.next .in1)) | exact .next (.next (.next (.next .in1))) | exact .in2 | exact .next .in2 | exact .next (.next .in2) | exact .next (.next (.next .in2)) | exact .next (.next (.next (.next .in2))) | exact .app .here | exact .app (.next .here) | exact .app (.next (.next .here)) | exact .app (.next (.next (.next .here))) | exact .app (.next (.next (.next (.next .here)))) | exact .app (.next (.next (.next (.next (.next .here))))) | exact .app (.next (.next (.next (.next (.next (.next .here)))))) | exact .app (.next (.next (.next (.next (.next (.next (.next .here))))))) | exact .app .in1 | exact .app .in2 | exact .app (.next .in1) | exact .next (.app .in1) | exact .next (.next (.app .in1)) | exact .next (.app .here) | exact .next (.next (.app .here)) | exact .next (.next (.next (.app .here))) | exact .next (.next (.next (.next (.app .here))))) rfl trivial rfl rfl Try.underlying3 rfl rfl (by rfl) ?_
              refine G.bin rfl trivial rfl rfl rfl rfl rfl ?_
              refine G.nil ?_
              refine C.cond _ rfl ?_ ?_
              · intro hc4
                refine C.seq ?_
                refine C.region ?_
                refine G.fieldAddr rfl trivial rfl rfl Try.underlying33 rfl I22 rfl rfl ?_
                refine G.loadAt (by first | exact .here | exact .next .here | exact .next (.next .here) | exact .next (.next (.next .here)) | exact .next (.next (.next (.next .here))) | exact .next (.next (.next (.next (.next .here)))) | exact .next (.next (.next (.next (.next (.next .here))))) | exact .next (.next (.next (.next (.next (.next (.next .here)))))) | exact .in1 | exact .next .in1 | exact .next (.next .in1) | exact .next (.next (.next .in1)) | exact .next (.next (.next (.next .in1))) | exact .in2 | exact .next .in2 | exact .next (.next .in2) | exact .next (.next (.next .in2)) | exact .next (.next (.next (.next .in2))) | exact .app .here | exact .app (.next .here) | exact .app (.next (.next .here)) | exact .app (.next (.next (.next .here))) | exact .app (.next (.next (.next (.next .here)))) | exact .app (.next (.next (.next (.next (.next .here))))) | exact .app (.next (.next (.next (.next (.next (.next .here)))))) | exact .app (.next (.next (.next (.next (.next (.next (.next .here))))))) | exact .app .in1 | exact .app .in2 | exact .app (.next .in1) | exact .next (.app .in1) | exact .next (.next (.app .in1)) | exact .next (.app .here) | exact .next (.next (.app .here)) | exact .next (.next (.next (.app .here))) | exact .next (.next (.next (.next (.app .here))))) rfl trivial rfl rfl Try.underlying22 rfl rfl (by rfl) ?_
                refine G.assignS rfl trivial rfl rfl rfl ?_
                refine G.nil ?_
                refine C.cut (fun F D' L' => ∃ (pa : Option Addr) (pc : Nat) (pl : List UInt8) (sp : Seg), (∀ L, Rd W0 (sp :: L) pa (bytesV pl)) ∧ pl.length ≤ 9223372036854775807 ∧ F 1 = .slice (some ⟨p, o, none⟩) ops.length cap1 ∧ F 8 = ptr b31 ∧ F 10 = ptr bs ∧ F 11 = ptr b11 ∧ F 12 = .int .i64 (i : Int) ∧ F 13 = ptr b13 ∧ F 14 = .bool true ∧ F 15 = .slice pa pl.length pc ∧ D' = [] ∧ sp :: s :: nowSeg b11 ns :: [(b13, .row (sopC (kd, no, oa, oc, l)) 33 3)] :: [] = L') ?_ ?_
                ·
                  refine C.seq ?_
                  refine C.region ?_
                  refine G.moveS rfl trivial rfl rfl rfl ?_
                  refine G.lenSlice rfl trivial rfl rfl Try.underlying22 rfl ?_
                  refine G.bin rfl trivial rfl rfl rfl rfl rfl ?_
                  refine G.moveB rfl trivial rfl rfl rfl ?_
                  refine G.fork (t := 95) _ rfl ?_ ?_
                  · intro hg95
                    refine G.moveS rfl ⟨_, rfl, rfl, rfl⟩ rfl rfl rfl ?_
                    refine G.lenSlice rfl ⟨_, rfl, rfl, rfl⟩ rfl rfl Try.underlying22 rfl ?_
                    refine G.bin rfl ⟨_, rfl, rfl, rfl⟩ rfl rfl rfl rfl rfl ?_
                    first | refine G.pickT rfl trivial rfl rfl rfl rfl ?_ | refine G.pickF rfl trivial rfl rfl rfl rfl ?_
                    refine G.nil ?_
                    refine C.cond _ rfl ?_ ?_
                    · intro hc5
                      refine C.region ?_
                      refine G.moveS rfl trivial rfl rfl rfl ?_
                      refine G.call E10 rfl rfl trivial rfl rfl (of_spec W0 _ oa oc l (fun s => hor _)) rfl ?_
                      rintro e L2 ⟨bp, rfl, rfl⟩
                      refine G.assignS rfl trivial rfl rfl rfl ?_
                      refine G.nil ?_
                      exact ⟨some ⟨bp, 0, none⟩, 256, ofB l, _, fun L => Rd.row0 .here, by rw [ofB_length]; decide, rfl, rfl, rfl, rfl, rfl, rfl, rfl, by rw [ofB_length]; rfl, rfl, rfl⟩
                    · intro hc5
                      refine C.less (fun _ h => h.empty) ?_
                      refine C.skip ?_
                      exact ⟨oa, oc, l, [], fun L => hor _, by omega, rfl, rfl, rfl, rfl, rfl, rfl, rfl, rfl, rfl, rfl⟩
                  · intro hg95
                    refine G.skip rfl rfl rfl rfl rfl rfl ?_
                    refine G.skip rfl rfl rfl rfl rfl rfl ?_
                    refine G.skip rfl rfl rfl rfl rfl rfl ?_
                    first | refine G.pickT rfl trivial rfl rfl rfl rfl ?_ | refine G.pickF rfl trivial rfl rfl rfl rfl ?_
                    refine G.less (fun _ h => h.empty) ?_
                    refine G.nil ?_
                    refine C.condF rfl ?_
                    refine C.skip ?_
                    exact ⟨oa, oc, l, [], fun L => hor _, by omega, rfl, rfl, rfl, rfl, rfl, rfl, rfl, rfl, rfl, rfl⟩
                ·
                  rintro F D' L' ⟨pa, pc, pl, sp, hpr, hpl, h1', h8, h10, h11, h12, h13, h14, h15, rfl, rfl⟩
                  refine C.fix (d := 1) h1' ?_
                  refine C.fix (d := 8) h8 ?_
                  refine C.fix (d := 10) h10 ?_
                  refine C.fix (d := 11) h11 ?_
                  refine C.fix (d := 12) h12 ?_
                  refine C.fix (d := 13) h13 ?_
                  refine C.fix (d := 14) h14 ?_
                  refine C.fix (d := 15) h15 ?_
                  refine C.seq ?_
                  refine C.region ?_
                  refine G.assignI rfl trivial rfl rfl rfl ?_
                  refine G.nil ?_
                  refine C.seq ?_
                  refine C.seq ?_
                  refine C.region ?_
                  refine G.moveB rfl trivial rfl rfl rfl ?_
                  first | refine G.notD rfl trivial rfl rfl rfl ?_ | refine G.not rfl trivial rfl rfl rfl ?_
                  refine G.nil ?_
                  refine C.condF rfl ?_
                  refine C.seq ?_
                  refine C.region ?_
                  refine G.moveS rfl trivial rfl rfl rfl ?_
                  refine G.lenSlice rfl trivial rfl rfl Try.underlying22 rfl ?_
                  refine G.bin rfl trivial rfl rfl rfl rfl rfl ?_
                  refine G.nil ?_
                  refine C.cond _ rfl ?_ ?_
                  · intro hc7
                    refine C.region ?_
                    refine G.assignI rfl trivial rfl rfl rfl ?_
                    refine G.nil ?_
                    refine C.seq ?_
                    refine C.region ?_
                    refine G.moveP rfl trivial rfl rfl rfl ?_
                    refine G.fieldAddr rfl trivial rfl rfl Try.underlying33 rfl I3 rfl rfl ?_
                    refine G.loadAt (by first | exact .here | exact .next .here | exact .next (.next .here) | exact .next (.next (.next .here)) | exact .next (.next (.next (.next .here))) | exact .next (.next (.next (.next (.next .here)))) | exact .next (.next (.next (.next (.next (.next .here))))) | exact .next (.next (.next (.next (.next (.next (.next .here)))))) | exact .in1 | exact .next .in1 | exact .next (.next .in1) | exact .next (.next (.next .in1)) | exact .next (.next (.next (.next .in1))) | exact .in2 | exact .next .in2 | exact .next (.next .in2) | exact .next (.next (.next .in2)) | exact .next (.next (.next (.next .in2))) | exact .app .here | exact .app (.next .here) | exact .app (.next (.next .here)) | exact .app (.next (.next (.next .here))) | exact .app (.next (.next (.next (.next .here)))) | exact .app (.next (.next (.next (.next (.next .here))))) | exact .app (.next (.next (.next (.next (.next (.next .here)))))) | exact .app (.next (.next (.next (.next (.next (.next (.next .here))))))) | exact .app .in1 | exact .app .in2 | exact .app (.next .in1) | exact .next (.app .in1) | exact .next (.next (.app .in1)) | exact .next (.app .here) | exact .next (.next (.app .here)) | exact .next (.next (.next (.app .here))) | exact .next (.next (.next (.next (.app .here))))) rfl trivial rfl rfl Try.underlying3 rfl rfl (by rfl) ?_
                    refine G.moveS rfl trivial rfl rfl rfl ?_
                    refine G.call E12 rfl rfl trivial rfl rfl (FnS.perm (sset_no W0 bs _ hsh no pa pc pl _ rfl 1 (setC_in hin (by omega)) (by decide) (hpr _)) P2) rfl ?_
                    rintro e L2 ⟨s2, hsh2, rfl, rfl⟩
                    refine G.assignI rfl trivial rfl rfl rfl ?_
                    refine G.less (L' := s2 :: nowSeg b11 ns :: [(b13, .row (sopC (kd, no, oa, oc, l)) 33 3)] :: []) (fun _ h => h.skip1) ?_
                    refine G.nil ?_
                    refine C.seq ?_
                    refine C.seq ?_
                    refine C.region ?_
                    refine G.moveI rfl trivial rfl rfl rfl ?_
                    refine G.bin rfl trivial rfl rfl rfl rfl rfl ?_
                    refine G.moveI rfl trivial rfl rfl rfl ?_
                    refine G.bin rfl trivial rfl rfl rfl rfl rfl ?_
                    refine G.boolNe rfl trivial rfl rfl Try.underlying4 rfl rfl ?_
                    refine G.fix (d := 116) (v := .bool false) rfl ?_
                    refine G.moveB rfl trivial rfl rfl rfl ?_
                    refine G.moveB rfl ⟨_, rfl, rfl, rfl⟩ rfl rfl rfl ?_
                    refine G.moveB rfl ⟨_, rfl, rfl, rfl⟩ rfl rfl rfl ?_
                    refine G.moveI rfl ⟨_, rfl, rfl, rfl⟩ rfl rfl rfl ?_
                    refine G.moveI rfl ⟨_, rfl, rfl, rfl⟩ rfl rfl rfl ?_
                    refine G.bin rfl ⟨_, rfl, rfl, rfl⟩ rfl rfl rfl rfl rfl ?_
                    first | refine G.pickT rfl ⟨_, rfl, rfl, rfl⟩ rfl rfl rfl rfl ?_ | refine G.pickF rfl ⟨_, rfl, rfl, rfl⟩ rfl rfl rfl rfl ?_
                    first | refine G.pickT rfl trivial rfl rfl rfl rfl ?_ | refine G.pickF rfl trivial rfl rfl rfl rfl ?_
                    refine G.nil ?_
                    refine C.condF rfl ?_
                    refine C.skip ?_
                    refine C.seq ?_
                    refine C.region ?_
                    refine G.moveI rfl trivial rfl rfl rfl ?_
                    refine G.bin rfl trivial rfl rfl rfl rfl rfl ?_
                    refine G.nil ?_
                    refine C.condF rfl ?_
                    refine C.skip ?_
                    exact ⟨mg, s2, ns, hsh2, hnw, rfl, rfl, rfl, rfl, rfl, rfl, rfl, rfl, rfl⟩
                  · intro hc7
                    have hp256 : pl.length = 256 := by omega
                    have hno96 : no.toNat < ns.length := by have := hnw.1; omega
                    refine C.skip ?_
                    refine C.seq ?_
                    refine C.region ?_
                    refine G.moveP rfl trivial rfl rfl rfl ?_
                    refine G.fieldAddr rfl trivial rfl rfl Try.underlying33 rfl I3 rfl rfl ?_
                    refine G.loadAt (by first | exact .here | exact .next .here | exact .next (.next .here) | exact .next (.next (.next .here)) | exact .next (.next (.next (.next .here))) | exact .next (.next (.next (.next (.next .here)))) | exact .next (.next (.next (.next (.next (.next .here))))) | exact .next (.next (.next (.next (.next (.next (.next .here)))))) | exact .in1 | exact .next .in1 | exact .next (.next .in1) | exact .next (.next (.next .in1)) | exact .next (.next (.next (.next .in1))) | exact .in2 | exact .next .in2 | exact .next (.next .in2) | exact .next (.next (.next .in2)) | exact .next (.next (.next (.next .in2))) | exact .app .here | exact .app (.next .here) | exact .app (.next (.next .here)) | exact .app (.next (.next (.next .here))) | exact .app (.next (.next (.next (.next .here)))) | exact .app (.next (.next (.next (.next (.next .here))))) | exact .app (.next (.next (.next (.next (.next (.next .here)))))) | exact .app (.next (.next (.next (.next (.next (.next (.next .here))))))) | exact .app .in1 | exact .app .in2 | exact .app (.next .in1) | exact .next (.app .in1) | exact .next (.next (.app .in1)) | exact .next (.app .here) | exact .next (.next (.app .here)) | exact .next (.next (.next (.app .here))) | exact .next (.next (.next (.next (.app .here))))) rfl trivial rfl rfl Try.underlying3 rfl rfl (by rfl) ?_
                    refine G.moveS rfl trivial rfl rfl rfl ?_
                    rw [hp256]
                    refine G.call E12 rfl rfl trivial rfl rfl (FnS.perm (sset_in W0 bs _ hsh no hin pa pc pl hp256 (hpr _)) P2) rfl ?_
                    rintro e L2 ⟨s2, hsh2, rfl, rfl⟩
                    refine G.assignI rfl trivial rfl rfl rfl ?_
                    refine G.nil ?_
                    refine C.seq ?_
                    refine C.seq ?_
                    refine C.region ?_
                    refine G.moveI rfl trivial rfl rfl rfl ?_
                    refine G.bin rfl trivial rfl rfl rfl rfl rfl ?_
                    refine G.moveI rfl trivial rfl rfl rfl ?_
                    refine G.bin rfl trivial rfl rfl rfl rfl rfl ?_
                    refine G.boolNe rfl trivial rfl rfl Try.underlying4 rfl rfl ?_
                    refine G.fix (d := 116) (v := .bool false) rfl ?_
                    refine G.moveB rfl trivial rfl rfl rfl ?_
                    refine G.moveB rfl ⟨_, rfl, rfl, rfl⟩ rfl rfl rfl ?_
                    refine G.moveB rfl ⟨_, rfl, rfl, rfl⟩ rfl rfl rfl ?_
                    refine G.moveI rfl ⟨_, rfl, rfl, rfl⟩ rfl rfl rfl ?_
                    refine G.moveI rfl ⟨_, rfl, rfl, rfl⟩ rfl rfl rfl ?_
                    refine G.bin rfl ⟨_, rfl, rfl, rfl⟩ rfl rfl rfl rfl rfl ?_
                    first | refine G.pickT rfl ⟨_, rfl, rfl, rfl⟩ rfl rfl rfl rfl ?_ | refine G.pickF rfl ⟨_, rfl, rfl, rfl⟩ rfl rfl rfl rfl ?_
                    first | refine G.pickT rfl trivial rfl rfl rfl rfl ?_ | refine G.pickF rfl trivial rfl rfl rfl rfl ?_
                    refine G.nil ?_
                    refine C.condF rfl ?_
                    refine C.skip ?_
                    refine C.seq ?_
                    refine C.region ?_
                    refine G.moveI rfl trivial rfl rfl rfl ?_
                    refine G.bin rfl trivial rfl rfl rfl rfl rfl ?_
                    refine G.nil ?_
                    refine C.condT rfl ?_
                    refine C.drawn mixed ([[(b13, .row (sopC (kd, no, oa, oc, l)) 33 3)]]) [] (fun _ h => h.tail.tail.tail) ?_
                    refine GA.pure (i := 0) (fun _ _ _ _ _ h => h) rfl (by kernel_rfl) trivial rfl rfl (Y.fieldAddr rfl Try.underlying33 rfl I3 rfl rfl) (#[true, false, false, false, false, false]) (by kernel_rfl) ?_
                    refine GA.read (i := 1) (fun _ _ _ _ _ h => h) rfl (by kernel_rfl) (by kernel_rfl) trivial rfl rfl (Y.loadAt (by first | exact .here | exact .next .here | exact .next (.next .here) | exact .next (.next (.next .here)) | exact .next (.next (.next (.next .here))) | exact .next (.next (.next (.next (.next .here)))) | exact .next (.next (.next (.next (.next (.next .here))))) | exact .next (.next (.next (.next (.next (.next (.next .here)))))) | exact .in1 | exact .next .in1 | exact .next (.next .in1) | exact .next (.next (.next .in1)) | exact .next (.next (.next (.next .in1))) | exact .in2 | exact .next .in2 | exact .next (.next .in2) | exact .next (.next (.next .in2)) | exact .next (.next (.next (.next .in2))) | exact .app .here | exact .app (.next .here) | exact .app (.next (.next .here)) | exact .app (.next (.next (.next .here))) | exact .app (.next (.next (.next (.next .here)))) | exact .app (.next (.next (.next (.next (.next .here))))) | exact .app (.next (.next (.next (.next (.next (.next .here)))))) | exact .app (.next (.next (.next (.next (.next (.next (.next .here))))))) | exact .app .in1 | exact .app .in2 | exact .app (.next .in1) | exact .next (.app .in1) | exact .next (.next (.app .in1)) | exact .next (.app .here) | exact .next (.next (.app .here)) | exact .next (.next (.next (.app .here))) | exact .next (.next (.next (.next (.app .here))))) rfl Try.underlying3 rfl rfl (by rfl)) (#[true, true, false, false, false, false]) (by kernel_rfl) ?_
                    refine GA.fix (d := 128) (v := .int .i64 no) rfl ?_
                    refine GA.pure (i := 2) (fun _ _ _ _ _ h => h) rfl (by kernel_rfl) trivial rfl rfl (Y.moveS rfl rfl) (#[true, true, true, false, false, false]) (by kernel_rfl) ?_
                    refine GA.one (i := 3) rfl (by kernel_rfl) (#[true, true, true, true, false, false]) (by kernel_rfl) ?_
                    refine G.appendNil rfl trivial rfl rfl Try.underlying22 Try.underlying22 I5 rfl (by decide) rfl (by decide) (hpr _).cons (by simp; omega) bytesV_ok (by omega) ?_
                    intro v130 s130 hv130
                    obtain ⟨bq, cq, kq, rfl, rfl, hq1, hq2⟩ := hv130.block (by omega)
                    refine G.nil ?_
                    refine ⟨fun _ _ h => h.tail.tail.tail.tail, ?_⟩
                    refine GA.pure (i := 4) (fun _ _ _ _ _ h => h) rfl (by kernel_rfl) trivial rfl rfl (Y.indexAddrArr rfl Try.underlying26 I22 rfl rfl (by omega)) (#[true, true, true, true, true, false]) (by kernel_rfl) ?_
                    refine GA.one (i := 5) rfl (by kernel_rfl) (#[true, true, true, true, true, true]) (by kernel_rfl) ?_
                    refine G.store (v := .slice (some ⟨bq, 0, none⟩) 256 cq) (.next (.next (.next .here))) rfl trivial rfl I22 rfl rfl rfl (by have := hnw.1; simp; omega) ((ns.map bslot).set no.toNat (bslot (some (bq, cq, kq, pl)))) (by simp [bslot, hp256]) ?_
                    refine G.less (L' := s2 :: nowSeg b11 (ns.set no.toNat (some (bq, cq, kq, pl))) :: [(b13, .row (sopC (kd, no, oa, oc, l)) 33 3)] :: []) (fun _ h => (now_put hno96 (bq, cq, kq, pl) (mem_in h)).perm2) ?_
                    refine G.nil ?_
                    refine ⟨fun _ _ h => h.tail.tail, ?_⟩
                    refine GA.done (by kernel_rfl) ?_
                    have hnw2 := hnw.set (i := no.toNat) (by omega) (bq, cq, kq, pl) ⟨(by show pl.length ≤ cq; omega), (by show cq ≤ kq; omega), (by show pl.length ≤ _; omega)⟩
                    rw [show ((no.toNat : Nat) : Int) = no by omega] at hnw2
                    exact ⟨_, s2, _, hsh2, hnw2, rfl, rfl, rfl, rfl, rfl, rfl, rfl, rfl, rfl⟩
              · intro hc4
                refine C.skip ?_
                exact ⟨mg, s, ns, hsh, hnw, rfl, rfl, rfl, rfl, rfl, rfl, rfl, rfl, rfl⟩
            ·
              rintro F D' L' ⟨mg, s, ns, hsh, hnw, h1', h8, h10, h11, h12, h13, h14, rfl, rfl⟩
              refine C.fix (d := 1) h1' ?_
              refine C.fix (d := 8) h8 ?_
              refine C.fix (d := 10) h10 ?_
              refine C.fix (d := 11) h11 ?_
              refine C.fix (d := 12) h12 ?_
              refine C.fix (d := 13) h13 ?_
              refine C.fix (d := 14) h14 ?_
              refine C.seq ?_
              refine C.region ?_
              refine G.moveP rfl trivial rfl rfl rfl ?_
              refine G.fieldAddr rfl trivial rfl rfl Try.underlying33 rfl I3 rfl rfl ?_
              refine G.loadAt (by first | exact .here | exact .next .here | exact .next (.next .here) | exact .next (.next (.next .here)) | exact .next (.next (.next (.next .here))) | exact .next (.next (.next (.next (.next .here)))) | exact .next (.next (.next (.next (.next (.next .here))))) | exact .next (.next (.next (.next (.next (.next (.next .here)))))) | exact .in1 | exact .next .in1 | exact .next (.next .in1) | exact .next (.next (.next .in1)) | exact .next (.next (.next (.next .in1))) | exact .in2 | exact .next .in2 | exact .next (.next .in2) | exact .next (.next (.next .in2)) | exact .next (.next (.next (.next .in2))) | exact .app .here | exact .app (.next .here) | exact .app (.next (.next .here)) | exact .app (.next (.next (.next .here))) | exact .app (.next (.next (.next (.next .here)))) | exact .app (.next (.next (.next (.next (.next .here))))) | exact .app (.next (.next (.next (.next (.next (.next .here)))))) | exact .app (.next (.next (.next (.next (.next (.next (.next .here))))))) | exact .app .in1 | exact .app .in2 | exact .app (.next .in1) | exact .next (.app .in1) | exact .next (.next (.app .in1)) | exact .next (.app .here) | exact .next (.next (.app .here)) | exact .next (.next (.next (.app .here))) | exact .next (.next (.next (.next (.app .here))))) rfl trivial rfl rfl Try.underlying3 rfl rfl (by rfl) ?_
              refine G.call E13 rfl rfl trivial rfl rfl (spage_any W0 bs _ hsh no hno) rfl ?_
              rintro e L2 ⟨a18, c18, so1, hr1, rfl, rfl⟩
              refine G.moveU rfl trivial rfl rfl rfl ?_
              refine G.extractL rfl trivial rfl rfl rfl rfl ?_
              refine G.extractL rfl trivial rfl rfl rfl rfl ?_
              refine G.assignS rfl trivial rfl rfl rfl ?_
              refine G.assignI rfl trivial rfl rfl rfl ?_
              refine G.nil ?_
              refine C.seq ?_
              refine C.region ?_
              refine G.moveP rfl trivial rfl rfl rfl ?_
              refine G.fieldAddr rfl trivial rfl rfl Try.underlying33 rfl I3 rfl rfl ?_
              refine G.loadAt (by first | exact .here | exact .next .here | exact .next (.next .here) | exact .next (.next (.next .here)) | exact .next (.next (.next (.next .here))) | exact .next (.next (.next (.next (.next .here)))) | exact .next (.next (.next (.next (.next (.next .here))))) | exact .next (.next (.next (.next (.next (.next (.next .here)))))) | exact .in1 | exact .next .in1 | exact .next (.next .in1) | exact .next (.next (.next .in1)) | exact .next (.next (.next (.next .in1))) | exact .in2 | exact .next .in2 | exact .next (.next .in2) | exact .next (.next (.next .in2)) | exact .next (.next (.next (.next .in2))) | exact .app .here | exact .app (.next .here) | exact .app (.next (.next .here)) | exact .app (.next (.next (.next .here))) | exact .app (.next (.next (.next (.next .here)))) | exact .app (.next (.next (.next (.next (.next .here))))) | exact .app (.next (.next (.next (.next (.next (.next .here)))))) | exact .app (.next (.next (.next (.next (.next (.next (.next .here))))))) | exact .app .in1 | exact .app .in2 | exact .app (.next .in1) | exact .next (.app .in1) | exact .next (.next (.app .in1)) | exact .next (.app .here) | exact .next (.next (.app .here)) | exact .next (.next (.next (.app .here))) | exact .next (.next (.next (.next (.app .here))))) rfl trivial rfl rfl Try.underlying3 rfl rfl (by rfl) ?_
              refine G.call E14 rfl rfl trivial rfl rfl (FnS.perm (inner_any W0 bs _ hsh hsrc no hno) P2) rfl ?_
              rintro e L2 ⟨a20, c20, so2, hr2, rfl, rfl⟩
              refine G.moveU rfl trivial rfl rfl rfl ?_
              refine G.extractL rfl trivial rfl rfl rfl rfl ?_
              refine G.extractL rfl trivial rfl rfl rfl rfl ?_
              refine G.assignS rfl trivial rfl rfl rfl ?_
              refine G.assignI rfl trivial rfl rfl rfl ?_
              refine G.nil ?_
              refine C.cut (fun F D' L' => ∃ (ya : Option Addr) (yc : Nat), (Rd W0 (so2 :: s :: so1 :: nowSeg b11 ns :: [(b13, .row (sopC (kd, no, oa, oc, l)) 33 3)] :: []) ya (bytesV (ansB (shR mg (bookR ps bd) no)))) ∧ F 1 = .slice (some ⟨p, o, none⟩) ops.length cap1 ∧ F 8 = ptr b31 ∧ F 10 = ptr bs ∧ F 11 = ptr b11 ∧ F 12 = .int .i64 (i : Int) ∧ F 18 = .slice a18 (ansB (shR mg (bookR ps bd) no)).length c18 ∧ F 19 = .int .i64 (ansC (shR mg (bookR ps bd) no)) ∧ F 20 = .slice ya (ansB (shR mg (bookR ps bd) no)).length yc ∧ F 21 = .int .i64 (ansC (shR mg (bookR ps bd) no)) ∧ D' = [] ∧ so2 :: s :: so1 :: nowSeg b11 ns :: [(b13, .row (sopC (kd, no, oa, oc, l)) 33 3)] :: [] = L') ?_ ?_
              ·
                refine C.seq ?_
                refine C.region ?_
                refine G.moveB rfl trivial rfl rfl rfl ?_
                refine G.moveB rfl trivial rfl rfl rfl ?_
                have hsl := slot_at (ns := ns) (k := no.toNat) (by have := hnw.1; omega)
                rw [show ((no.toNat : Nat) : Int) = no by omega] at hsl
                have hnv := hnw.2.2 no.toNat (by omega)
                rw [show ((no.toNat : Nat) : Int) = no by omega] at hnv
                refine G.fieldAddr rfl ⟨_, rfl, rfl, rfl⟩ rfl rfl Try.underlying33 rfl I3 rfl rfl ?_
                refine G.loadAt (by first | exact .here | exact .next .here | exact .next (.next .here) | exact .next (.next (.next .here)) | exact .next (.next (.next (.next .here))) | exact .next (.next (.next (.next (.next .here)))) | exact .next (.next (.next (.next (.next (.next .here))))) | exact .next (.next (.next (.next (.next (.next (.next .here)))))) | exact .in1 | exact .next .in1 | exact .next (.next .in1) | exact .next (.next (.next .in1)) | exact .next (.next (.next (.next .in1))) | exact .in2 | exact .next .in2 | exact .next (.next .in2) | exact .next (.next (.next .in2)) | exact .next (.next (.next (.next .in2))) | exact .app .here | exact .app (.next .here) | exact .app (.next (.next .here)) | exact .app (.next (.next (.next .here))) | exact .app (.next (.next (.next (.next .here)))) | exact .app (.next (.next (.next (.next (.next .here))))) | exact .app (.next (.next (.next (.next (.next (.next .here)))))) | exact .app (.next (.next (.next (.next (.next (.next (.next .here))))))) | exact .app .in1 | exact .app .in2 | exact .app (.next .in1) | exact .next (.app .in1) | exact .next (.next (.app .in1)) | exact .next (.app .here) | exact .next (.next (.app .here)) | exact .next (.next (.next (.app .here))) | exact .next (.next (.next (.next (.app .here))))) rfl ⟨_, rfl, rfl, rfl⟩ rfl rfl Try.underlying3 rfl rfl (by rfl) ?_
                refine G.fix (d := 149) (v := .int .i64 no) rfl ?_
                refine G.indexAddrArr rfl ⟨_, rfl, rfl, rfl⟩ rfl rfl Try.underlying26 I22 rfl rfl (by omega) ?_
                by_cases hsome : ∃ e, ns[no.toNat]! = some e
                ·
                  obtain ⟨en, hen⟩ := hsome
                  rw [hen] at hsl hnv
                  have hmem : some en ∈ ns := by rw [← hen, getElem!_pos ns no.toNat (by have := hnw.1; omega)]; exact List.getElem_mem _
                  refine G.loadAt (v := .slice (some ⟨en.1, 0, none⟩) en.2.2.2.length en.2.1) (.next (.next (.next .here))) rfl ⟨_, rfl, rfl, rfl⟩ rfl rfl Try.underlying22 rfl rfl hsl ?_
                  refine G.slNe rfl ⟨_, rfl, rfl, rfl⟩ rfl rfl Try.underlying22 rfl rfl ?_
                  refine G.fix (d := 152) (v := .bool true) rfl ?_
                  first | refine G.pickT rfl trivial rfl rfl rfl rfl ?_ | refine G.pickF rfl trivial rfl rfl rfl rfl ?_
                  refine G.nil ?_
                  refine C.condT rfl ?_
                  refine C.region ?_
                  refine G.fieldAddr rfl trivial rfl rfl Try.underlying33 rfl I3 rfl rfl ?_
                  refine G.loadAt (by first | exact .here | exact .next .here | exact .next (.next .here) | exact .next (.next (.next .here)) | exact .next (.next (.next (.next .here))) | exact .next (.next (.next (.next (.next .here)))) | exact .next (.next (.next (.next (.next (.next .here))))) | exact .next (.next (.next (.next (.next (.next (.next .here)))))) | exact .in1 | exact .next .in1 | exact .next (.next .in1) | exact .next (.next (.next .in1)) | exact .next (.next (.next (.next .in1))) | exact .in2 | exact .next .in2 | exact .next (.next .in2) | exact .next (.next (.next .in2)) | exact .next (.next (.next (.next .in2))) | exact .app .here | exact .app (.next .here) | exact .app (.next (.next .here)) | exact .app (.next (.next (.next .here))) | exact .app (.next (.next (.next (.next .here)))) | exact .app (.next (.next (.next (.next (.next .here))))) | exact .app (.next (.next (.next (.next (.next (.next .here)))))) | exact .app (.next (.next (.next (.next (.next (.next (.next .here))))))) | exact .app .in1 | exact .app .in2 | exact .app (.next .in1) | exact .next (.app .in1) | exact .next (.next (.app .in1)) | exact .next (.app .here) | exact .next (.next (.app .here)) | exact .next (.next (.next (.app .here))) | exact .next (.next (.next (.next (.app .here))))) rfl trivial rfl rfl Try.underlying3 rfl rfl (by rfl) ?_
                  refine G.fix (d := 155) (v := .int .i64 no) rfl ?_
                  refine G.indexAddrArr rfl trivial rfl rfl Try.underlying26 I22 rfl rfl (by omega) ?_
                  refine G.loadAt (v := .slice (some ⟨en.1, 0, none⟩) en.2.2.2.length en.2.1) (.next (.next (.next .here))) rfl trivial rfl rfl Try.underlying22 rfl rfl hsl ?_
                  refine G.assignS rfl trivial rfl rfl rfl ?_
                  refine G.assignI rfl trivial rfl rfl rfl ?_
                  refine G.nil ?_
                  rw [shR_in hin hnv.symm]
                  exact ⟨some ⟨en.1, 0, none⟩, en.2.1, (now_rd hmem _).cons.cons.cons, rfl, rfl, rfl, rfl, rfl, rfl, rfl, rfl, rfl, rfl, rfl⟩
                ·
                  have hen : ns[no.toNat]! = none := by
                    cases hq : ns[no.toNat]! with
                    | none => rfl
                    | some e => exact absurd ⟨e, hq⟩ hsome
                  rw [hen] at hsl hnv
                  refine G.loadAt (v := nilS) (.next (.next (.next .here))) rfl ⟨_, rfl, rfl, rfl⟩ rfl rfl Try.underlying22 rfl rfl hsl ?_
                  refine G.slNe rfl ⟨_, rfl, rfl, rfl⟩ rfl rfl Try.underlying22 rfl rfl ?_
                  refine G.fix (d := 152) (v := .bool false) rfl ?_
                  first | refine G.pickT rfl trivial rfl rfl rfl rfl ?_ | refine G.pickF rfl trivial rfl rfl rfl rfl ?_
                  refine G.nil ?_
                  refine C.condF rfl ?_
                  refine C.skip ?_
                  rw [shR_out hnv.symm]
                  exact ⟨a20, c20, hr2 _ _, rfl, rfl, rfl, rfl, rfl, rfl, rfl, rfl, rfl, rfl, rfl⟩
              ·
                rintro F D' L' ⟨ya, yc, hry, h1', h8, h10, h11, h12, h18, h19, h20, h21, rfl, rfl⟩
                refine C.fix (d := 1) h1' ?_
                refine C.fix (d := 8) h8 ?_
                refine C.fix (d := 10) h10 ?_
                refine C.fix (d := 11) h11 ?_
                refine C.fix (d := 12) h12 ?_
                refine C.fix (d := 18) h18 ?_
                refine C.fix (d := 19) h19 ?_
                refine C.fix (d := 20) h20 ?_
                refine C.fix (d := 21) h21 ?_
                refine C.seq ?_
                refine C.region ?_
                refine G.moveI rfl trivial rfl rfl rfl ?_
                refine G.moveI rfl trivial rfl rfl rfl ?_
                refine G.bin rfl trivial rfl rfl rfl rfl rfl ?_
                refine G.moveB rfl trivial rfl rfl rfl ?_
                refine G.no (t := 161) rfl (by simp) ?_
                refine G.moveS rfl ⟨_, rfl, rfl, rfl⟩ rfl rfl rfl ?_
                refine G.bytesStr (ansB (shR mg (bookR ps bd) no)) rfl ⟨_, rfl, rfl, rfl⟩ rfl rfl Try.underlying22 Try.underlying5 Try.underlying9 rfl rfl ((hr1 _ _).cons.cons) ?_
                refine G.moveS rfl ⟨_, rfl, rfl, rfl⟩ rfl rfl rfl ?_
                refine G.bytesStr (ansB (shR mg (bookR ps bd) no)) rfl ⟨_, rfl, rfl, rfl⟩ rfl rfl Try.underlying22 Try.underlying5 Try.underlying9 rfl rfl hry ?_
                refine G.strNe rfl ⟨_, rfl, rfl, rfl⟩ rfl rfl  rfl rfl ?_
                first | refine G.pickT rfl trivial rfl rfl rfl rfl ?_ | refine G.pickF rfl trivial rfl rfl rfl rfl ?_
                refine G.nil ?_
                refine C.no rfl (by simp) ?_
                refine C.skip ?_
                refine C.region ?_
                refine G.moveI rfl trivial rfl rfl rfl ?_
                refine G.addN (j := 1) rfl trivial rfl rfl rfl rfl (by omega) ?_
                refine G.assignI rfl trivial rfl rfl rfl ?_
                refine G.less (L' := s :: nowSeg b11 ns :: []) (fun _ h => h.tail.skip1.fewer (by simp)) ?_
                refine G.nil ?_
                exact ⟨ops.length - (i + 1) + 0, by omega, i + 1, mg, s, ns, rfl, by omega, by omega, hsh, hnw, rfl, rfl, rfl, rfl, rfl, rfl, rfl⟩
          ·
            refine G.loadAt (by first | exact .here | exact .next .here | exact .next (.next .here) | exact .next (.next (.next .here)) | exact .next (.next (.next (.next .here))) | exact .next (.next (.next (.next (.next .here)))) | exact .next (.next (.next (.next (.next (.next .here))))) | exact .next (.next (.next (.next (.next (.next (.next .here)))))) | exact .in1 | exact .next .in1 | exact .next (.next .in1) | exact .next (.next (.next .in1)) | exact .next (.next (.next (.next .in1))) | exact .in2 | exact .next .in2 | exact .next (.next .in2) | exact .next (.next (.next .in2)) | exact .next (.next (.next (.next .in2))) | exact .app .here | exact .app (.next .here) | exact .app (.next (.next .here)) | exact .app (.next (.next (.next .here))) | exact .app (.next (.next (.next (.next .here)))) | exact .app (.next (.next (.next (.next (.next .here))))) | exact .app (.next (.next (.next (.next (.next (.next .here)))))) | exact .app (.next (.next (.next (.next (.next (.next (.next .here))))))) | exact .app .in1 | exact .app .in2 | exact .app (.next .in1) | exact .next (.app .in1) | exact .next (.next (.app .in1)) | exact .next (.app .here) | exact .next (.next (.app .here)) | exact .next (.next (.next (.app .here))) | exact .next (.next (.next (.next (.app .here))))) rfl trivial rfl rfl Try.underlying3 rfl rfl (by rfl) ?_
            refine G.bin rfl trivial rfl rfl rfl rfl rfl ?_
            refine G.moveB rfl trivial rfl rfl rfl ?_
            refine G.fork (t := 82) _ rfl ?_ ?_
            · intro hg82
              refine G.fieldAddr rfl ⟨_, rfl, rfl, rfl⟩ rfl rfl Try.underlying33 rfl I3 rfl rfl ?_
              refine G.loadAt (by first | exact .here | exact .next .here | exact .next (.next .here) | exact .next (.next (.next .here)) | exact .next (.next (.next (.next .here))) | exact .next (.next (.next (.next (.next .here)))) | exact .next (.next (.next (.next (.next (.next .here))))) | exact .next (.next (.next (.next (.next (.next (.next .here)))))) | exact .in1 | exact .next .in1 | exact .next (.next .in1) | exact .next (.next (.next .in1)) | exact .next (.next (.next (.next .in1))) | exact .in2 | exact .next .in2 | exact .next (.next .in2) | exact .next (.next (.next .in2)) | exact .next (.next (.next (.next .in2))) | exact .app .here | exact .app (.next .here) | exact .app (.next (.next .here)) | exact .app (.next (.next (.next .here))) | exact .app (.next (.next (.next (.next .here)))) | exact .app (.next (.next (.next (.next (.next .here))))) | exact .app (.next (.next (.next (.next (.next (.next .here)))))) | exact .app (.next (.next (.next (.next (.next (.next (.next .here))))))) | exact .app .in1 | exact .app .in2 | exact .app (.next .in1) | exact .next (.app .in1) | exact .next (.next (.app .in1)) | exact .next (.app .here) | exact .next (.next (.app .here)) | exact .next (.next (.next (.app .here))) | exact .next (.next (.next (.next (.app .here))))) rfl ⟨_, rfl, rfl, rfl⟩ rfl rfl Try.underlying3 rfl rfl (by rfl) ?_
              refine G.bin rfl ⟨_, rfl, rfl, rfl⟩ rfl rfl rfl rfl rfl ?_
              first | refine G.pickT rfl trivial rfl rfl rfl rfl ?_ | refine G.pickF rfl trivial rfl rfl rfl rfl ?_
              refine G.assignB rfl trivial rfl rfl rfl ?_
              refine G.fix (d := 14) (v := .bool false) (by show Value.bool (decide (no ≤ 95)) = _; have h : 0 ≤ no := hg82; rw [decide_eq_false (by omega)]) ?_
              refine G.nil ?_
              refine C.cut (fun F D' L' => ∃ (mg : Int → Option (List UInt8)) (s : Seg) (ns : List (Option Bpg)), ShIs W0 bs mg (bookR ps bd) (bookSeg b31 ps bd) s ∧ NowIs ns mg ∧ F 1 = .slice (some ⟨p, o, none⟩) ops.length cap1 ∧ F 8 = ptr b31 ∧ F 10 = ptr bs ∧ F 11 = ptr b11 ∧ F 12 = .int .i64 (i : Int) ∧ F 13 = ptr b13 ∧ F 14 = .bool false ∧ D' = [] ∧ s :: nowSeg b11 ns :: [(b13, .row (sopC (kd, no, oa, oc, l)) 33 3)] :: [] = L') ?_ ?_
              ·
                refine C.seq ?_
                refine C.region ?_
                refine G.fieldAddr rfl trivial rfl rfl Try.underlying33 rfl I3 rfl rfl ?_
                refine G.loadAt (by first | exact .here | exact .next .here | exact .next (.next .here) | exact .next (.next (.next .here)) | exact .next (.next (.next (.next .here))) | exact .next (.next (.next (.next (.next .here)))) | exact .next (.next (.next (.next (.next (.next .here))))) | exact .next (.next (.next (.next (.next (.next (.next .here)))))) | exact .in1 | exact .next .in1 | exact .next (.next .in1) | exact .next (.next (.next .in1)) | exact .next (.next (.next (.next .in1))) | exact .in2 | exact .next .in2 | exact .next (.next .in2) | exact .next (.next (.next .in2)) | exact .next (.next (.next (.next .in2))) | exact .app .here | exact .app (.next .here) | exact .app (.next (.next .here)) | exact .app (.next (.next (.next .here))) | exact .app (.next (.next (.next (.next .here)))) | exact .app (.next (.next (.next (.next (.next .here))))) | exact .app (.next (.next (.next (.next (.next (.next .here)))))) | exact .app (.next (.next (.next (.next (.next (.next (.next .here))))))) | exact .app .in1 | exact .app .in2 | exact .app (.next .in1) | exact .next (.app .in1) | exact .next (.next (.app .in1)) | exact .next (.app .here) | exact .next (.next (.app .here)) | exact .next (.next (.next (.app .here))) | exact .next (.next (.next (.next (.app .here))))) rfl trivial rfl rfl Try.underlying3 rfl rfl (by rfl) ?_
                refine G.bin rfl trivial rfl rfl rfl rfl rfl ?_
                refine G.nil ?_
                refine C.cond _ rfl ?_ ?_
                · intro hc4
                  refine C.seq ?_
                  refine C.region ?_
                  refine G.fieldAddr rfl trivial rfl rfl Try.underlying33 rfl I22 rfl rfl ?_
                  refine G.loadAt (by first | exact .here | exact .next .here | exact .next (.next .here) | exact .next (.next (.next .here)) | exact .next (.next (.next (.next .here))) | exact .next (.next (.next (.next (.next .here)))) | exact .next (.next (.next (.next (.next (.next .here))))) | exact .next (.next (.next (.next (.next (.next (.next .here)))))) | exact .in1 | exact .next .in1 | exact .next (.next .in1) | exact .next (.next (.next .in1)) | exact .next (.next (.next (.next .in1))) | exact .in2 | exact .next .in2 | exact .next (.next .in2) | exact .next (.next (.next .in2)) | exact .next (.next (.next (.next .in2))) | exact .app .here | exact .app (.next .here) | exact .app (.next (.next .here)) | exact .app (.next (.next (.next .here))) | exact .app (.next (.next (.next (.next .here)))) | exact .app (.next (.next (.next (.next (.next .here))))) | exact .app (.next (.next (.next (.next (.next (.next .here)))))) | exact .app (.next (.next (.next (.next (.next (.next (.next .here))))))) | exact .app .in1 | exact .app .in2 | exact .app (.next .in1) | exact .next (.app .in1) | exact .next (.next (.app .in1)) | exact .next (.app .here) | exact .next (.next (.app .here)) | exact .next (.next (.next (.app .here))) | exact .next (.next (.next (.next (.app .here))))) rfl trivial rfl rfl Try.underlying22 rfl rfl (by rfl) ?_
                  refine G.assignS rfl trivial rfl rfl rfl ?_
                  refine G.nil ?_
                  refine C.cut (fun F D' L' => ∃ (pa : Option Addr) (pc : Nat) (pl : List UInt8) (sp : Seg), (∀ L, Rd W0 (sp :: L) pa (bytesV pl)) ∧ pl.length ≤ 9223372036854775807 ∧ F 1 = .slice (some ⟨p, o, none⟩) ops.length cap1 ∧ F 8 = ptr b31 ∧ F 10 = ptr bs ∧ F 11 = ptr b11 ∧ F 12 = .int .i64 (i : Int) ∧ F 13 = ptr b13 ∧ F 14 = .bool false ∧ F 15 = .slice pa pl.length pc ∧ D' = [] ∧ sp :: s :: nowSeg b11 ns :: [(b13, .row (sopC (kd, no, oa, oc, l)) 33 3)] :: [] = L') ?_ ?_
                  ·
                    refine C.seq ?_
                    refine C.region ?_
                    refine G.moveS rfl trivial rfl rfl rfl ?_
                    refine G.lenSlice rfl trivial rfl rfl Try.underlying22 rfl ?_
                    refine G.bin rfl trivial rfl rfl rfl rfl rfl ?_
                    refine G.moveB rfl trivial rfl rfl rfl ?_
                    refine G.fork (t := 95) _ rfl ?_ ?_
                    · intro hg95
                      refine G.moveS rfl ⟨_, rfl, rfl, rfl⟩ rfl rfl rfl ?_
                      refine G.lenSlice rfl ⟨_, rfl, rfl, rfl⟩ rfl rfl Try.underlying22 rfl ?_
                      refine G.bin rfl ⟨_, rfl, rfl, rfl⟩ rfl rfl rfl rfl rfl ?_
                      first | refine G.pickT rfl trivial rfl rfl rfl rfl ?_ | refine G.pickF rfl trivial rfl rfl rfl rfl ?_
                      refine G.nil ?_
                      refine C.cond _ rfl ?_ ?_
                      · intro hc5
                        refine C.region ?_
                        refine G.moveS rfl trivial rfl rfl rfl ?_
                        refine G.call E10 rfl rfl trivial rfl rfl (of_spec W0 _ oa oc l (fun s => hor _)) rfl ?_
                        rintro e L2 ⟨bp, rfl, rfl⟩
                        refine G.assignS rfl trivial rfl rfl rfl ?_
                        refine G.nil ?_
                        exact ⟨some ⟨bp, 0, none⟩, 256, ofB l, _, fun L => Rd.row0 .here, by rw [ofB_length]; decide, rfl, rfl, rfl, rfl, rfl, rfl, rfl, by rw [ofB_length]; rfl, rfl, rfl⟩
                      · intro hc5
                        refine C.less (fun _ h => h.empty) ?_
                        refine C.skip ?_
                        exact ⟨oa, oc, l, [], fun L => hor _, by omega, rfl, rfl, rfl, rfl, rfl, rfl, rfl, rfl, rfl, rfl⟩
                    · intro hg95
                      refine G.skip rfl rfl rfl rfl rfl rfl ?_
                      refine G.skip rfl rfl rfl rfl rfl rfl ?_
                      refine G.skip rfl rfl rfl rfl rfl rfl ?_
                      first | refine G.pickT rfl trivial rfl rfl rfl rfl ?_ | refine G.pickF rfl trivial rfl rfl rfl rfl ?_
                      refine G.less (fun _ h => h.empty) ?_
                      refine G.nil ?_
                      refine C.condF rfl ?_
                      refine C.skip ?_
                      exact ⟨oa, oc, l, [], fun L => hor _, by omega, rfl, rfl, rfl, rfl, rfl, rfl, rfl, rfl, rfl, rfl⟩
                  ·
                    rintro F D' L' ⟨pa, pc, pl, sp, hpr, hpl, h1', h8, h10, h11, h12, h13, h14, h15, rfl, rfl⟩
                    refine C.fix (d := 1) h1' ?_
                    refine C.fix (d := 8) h8 ?_
                    refine C.fix (d := 10) h10 ?_
                    refine C.fix (d := 11) h11 ?_
                    refine C.fix (d := 12) h12 ?_
                    refine C.fix (d := 13) h13 ?_
                    refine C.fix (d := 14) h14 ?_
                    refine C.fix (d := 15) h15 ?_
                    refine C.seq ?_
                    refine C.region ?_
                    refine G.assignI rfl trivial rfl rfl rfl ?_
                    refine G.nil ?_
                    refine C.seq ?_
                    refine C.seq ?_
                    refine C.region ?_
                    refine G.moveB rfl trivial rfl rfl rfl ?_
                    first | refine G.notD rfl trivial rfl rfl rfl ?_ | refine G.not rfl trivial rfl rfl rfl ?_
                    refine G.nil ?_
                    refine C.condT rfl ?_
                    refine C.region ?_
                    refine G.assignI rfl trivial rfl rfl rfl ?_
                    refine G.nil ?_
                    refine C.seq ?_
                    refine C.region ?_
                    refine G.moveP rfl trivial rfl rfl rfl ?_
                    refine G.fieldAddr rfl trivial rfl rfl Try.underlying33 rfl I3 rfl rfl ?_
                    refine G.loadAt (by first | exact .here | exact .next .here | exact .next (.next .here) | exact .next (.next (.next .here)) | exact .next (.next (.next (.next .here))) | exact .next (.next (.next (.next (.next .here)))) | exact .next (.next (.next (.next (.next (.next .here))))) | exact .next (.next (.next (.next (.next (.next (.next .here)))))) | exact .in1 | exact .next .in1 | exact .next (.next .in1) | exact .next (.next (.next .in1)) | exact .next (.next (.next (.next .in1))) | exact .in2 | exact .next .in2 | exact .next (.next .in2) | exact .next (.next (.next .in2)) | exact .next (.next (.next (.next .in2))) | exact .app .here | exact .app (.next .here) | exact .app (.next (.next .here)) | exact .app (.next (.next (.next .here))) | exact .app (.next (.next (.next (.next .here)))) | exact .app (.next (.next (.next (.next (.next .here))))) | exact .app (.next (.next (.next (.next (.next (.next .here)))))) | exact .app (.next (.next (.next (.next (.next (.next (.next .here))))))) | exact .app .in1 | exact .app .in2 | exact .app (.next .in1) | exact .next (.app .in1) | exact .next (.next (.app .in1)) | exact .next (.app .here) | exact .next (.next (.app .here)) | exact .next (.next (.next (.app .here))) | exact .next (.next (.next (.next (.app .here))))) rfl trivial rfl rfl Try.underlying3 rfl rfl (by rfl) ?_
                    refine G.moveS rfl trivial rfl rfl rfl ?_
                    refine G.call E12 rfl rfl trivial rfl rfl (FnS.perm (sset_no W0 bs _ hsh no pa pc pl _ rfl 3 (setC_out hin) (by decide) (hpr _)) P2) rfl ?_
                    rintro e L2 ⟨s2, hsh2, rfl, rfl⟩
                    refine G.assignI rfl trivial rfl rfl rfl ?_
                    refine G.less (L' := s2 :: nowSeg b11 ns :: [(b13, .row (sopC (kd, no, oa, oc, l)) 33 3)] :: []) (fun _ h => h.skip1) ?_
                    refine G.nil ?_
                    refine C.seq ?_
                    refine C.seq ?_
                    refine C.region ?_
                    refine G.moveI rfl trivial rfl rfl rfl ?_
                    refine G.bin rfl trivial rfl rfl rfl rfl rfl ?_
                    refine G.moveI rfl trivial rfl rfl rfl ?_
                    refine G.bin rfl trivial rfl rfl rfl rfl rfl ?_
                    refine G.boolNe rfl trivial rfl rfl Try.underlying4 rfl rfl ?_
                    refine G.fix (d := 116) (v := .bool false) rfl ?_
                    refine G.moveB rfl trivial rfl rfl rfl ?_
                    refine G.moveB rfl ⟨_, rfl, rfl, rfl⟩ rfl rfl rfl ?_
                    refine G.moveB rfl ⟨_, rfl, rfl, rfl⟩ rfl rfl rfl ?_
                    refine G.skip rfl rfl rfl rfl rfl rfl ?_
                    refine G.skip rfl rfl rfl rfl rfl rfl ?_
                    refine G.skip rfl rfl rfl rfl rfl rfl ?_
                    first | refine G.pickT rfl ⟨_, rfl, rfl, rfl⟩ rfl rfl rfl rfl ?_ | refine G.pickF rfl ⟨_, rfl, rfl, rfl⟩ rfl rfl rfl rfl ?_
                    first | refine G.pickT rfl trivial rfl rfl rfl rfl ?_ | refine G.pickF rfl trivial rfl rfl rfl rfl ?_
                    refine G.nil ?_
                    refine C.condF rfl ?_
                    refine C.skip ?_
                    refine C.seq ?_
                    refine C.region ?_
                    refine G.moveI rfl trivial rfl rfl rfl ?_
                    refine G.bin rfl trivial rfl rfl rfl rfl rfl ?_
                    refine G.nil ?_
                    refine C.condF rfl ?_
                    refine C.skip ?_
                    exact ⟨mg, s2, ns, hsh2, hnw, rfl, rfl, rfl, rfl, rfl, rfl, rfl, rfl, rfl⟩
                · intro hc4
                  refine C.skip ?_
                  exact ⟨mg, s, ns, hsh, hnw, rfl, rfl, rfl, rfl, rfl, rfl, rfl, rfl, rfl⟩
              ·
                rintro F D' L' ⟨mg, s, ns, hsh, hnw, h1', h8, h10, h11, h12, h13, h14, rfl, rfl⟩
                refine C.fix (d := 1) h1' ?_
                refine C.fix (d := 8) h8 ?_
                refine C.fix (d := 10) h10 ?_
                refine C.fix (d := 11) h11 ?_
                refine C.fix (d := 12) h12 ?_
                refine C.fix (d := 13) h13 ?_
                refine C.fix (d := 14) h14 ?_
                refine C.seq ?_
                refine C.region ?_
                refine G.moveP rfl trivial rfl rfl rfl ?_
                refine G.fieldAddr rfl trivial rfl rfl Try.underlying33 rfl I3 rfl rfl ?_
                refine G.loadAt (by first | exact .here | exact .next .here | exact .next (.next .here) | exact .next (.next (.next .here)) | exact .next (.next (.next (.next .here))) | exact .next (.next (.next (.next (.next .here)))) | exact .next (.next (.next (.next (.next (.next .here))))) | exact .next (.next (.next (.next (.next (.next (.next .here)))))) | exact .in1 | exact .next .in1 | exact .next (.next .in1) | exact .next (.next (.next .in1)) | exact .next (.next (.next (.next .in1))) | exact .in2 | exact .next .in2 | exact .next (.next .in2) | exact .next (.next (.next .in2)) | exact .next (.next (.next (.next .in2))) | exact .app .here | exact .app (.next .here) | exact .app (.next (.next .here)) | exact .app (.next (.next (.next .here))) | exact .app (.next (.next (.next (.next .here)))) | exact .app (.next (.next (.next (.next (.next .here))))) | exact .app (.next (.next (.next (.next (.next (.next .here)))))) | exact .app (.next (.next (.next (.next (.next (.next (.next .here))))))) | exact .app .in1 | exact .app .in2 | exact .app (.next .in1) | exact .next (.app .in1) | exact .next (.next (.app .in1)) | exact .next (.app .here) | exact .next (.next (.app .here)) | exact .next (.next (.next (.app .here))) | exact .next (.next (.next (.next (.app .here))))) rfl trivial rfl rfl Try.underlying3 rfl rfl (by rfl) ?_
                refine G.call E13 rfl rfl trivial rfl rfl (spage_any W0 bs _ hsh no hno) rfl ?_
                rintro e L2 ⟨a18, c18, so1, hr1, rfl, rfl⟩
                refine G.moveU rfl trivial rfl rfl rfl ?_
                refine G.extractL rfl trivial rfl rfl rfl rfl ?_
                refine G.extractL rfl trivial rfl rfl rfl rfl ?_
                refine G.assignS rfl trivial rfl rfl rfl ?_
                refine G.assignI rfl trivial rfl rfl rfl ?_
                refine G.nil ?_
                refine C.seq ?_
                refine C.region ?_
                refine G.moveP rfl trivial rfl rfl rfl ?_
                refine G.fieldAddr rfl trivial rfl rfl Try.underlying33 rfl I3 rfl rfl ?_
                refine G.loadAt (by first | exact .here | exact .next .here | exact .next (.next .here) | exact .next (.next (.next .here)) | exact .next (.next (.next (.next .here))) | exact .next (.next (.next (.next (.next .here)))) | exact .next (.next (.next (.next (.next (.next .here))))) | exact .next (.next (.next (.next (.next (.next (.next .here)))))) | exact .in1 | exact .next .in1 | exact .next (.next .in1) | exact .next (.next (.next .in1)) | exact .next (.next (.next (.next .in1))) | exact .in2 | exact .next .in2 | exact .next (.next .in2) | exact .next (.next (.next .in2)) | exact .next (.next (.next (.next .in2))) | exact .app .here | exact .app (.next .here) | exact .app (.next (.next .here)) | exact .app (.next (.next (.next .here))) | exact .app (.next (.next (.next (.next .here)))) | exact .app (.next (.next (.next (.next (.next .here))))) | exact .app (.next (.next (.next (.next (.next (.next .here)))))) | exact .app (.next (.next (.next (.next (.next (.next (.next .here))))))) | exact .app .in1 | exact .app .in2 | exact .app (.next .in1) | exact .next (.app .in1) | exact .next (.next (.app .in1)) | exact .next (.app .here) | exact .next (.next (.app .here)) | exact .next (.next (.next (.app .here))) | exact .next (.next (.next (.next (.app .here))))) rfl trivial rfl rfl Try.underlying3 rfl rfl (by rfl) ?_
                refine G.call E14 rfl rfl trivial rfl rfl (FnS.perm (inner_any W0 bs _ hsh hsrc no hno) P2) rfl ?_
                rintro e L2 ⟨a20, c20, so2, hr2, rfl, rfl⟩
                refine G.moveU rfl trivial rfl rfl rfl ?_
                refine G.extractL rfl trivial rfl rfl rfl rfl ?_
                refine G.extractL rfl trivial rfl rfl rfl rfl ?_
                refine G.assignS rfl trivial rfl rfl rfl ?_
                refine G.assignI rfl trivial rfl rfl rfl ?_
                refine G.nil ?_
                refine C.cut (fun F D' L' => ∃ (ya : Option Addr) (yc : Nat), (Rd W0 (so2 :: s :: so1 :: nowSeg b11 ns :: [(b13, .row (sopC (kd, no, oa, oc, l)) 33 3)] :: []) ya (bytesV (ansB (shR mg (bookR ps bd) no)))) ∧ F 1 = .slice (some ⟨p, o, none⟩) ops.length cap1 ∧ F 8 = ptr b31 ∧ F 10 = ptr bs ∧ F 11 = ptr b11 ∧ F 12 = .int .i64 (i : Int) ∧ F 18 = .slice a18 (ansB (shR mg (bookR ps bd) no)).length c18 ∧ F 19 = .int .i64 (ansC (shR mg (bookR ps bd) no)) ∧ F 20 = .slice ya (ansB (shR mg (bookR ps bd) no)).length yc ∧ F 21 = .int .i64 (ansC (shR mg (bookR ps bd) no)) ∧ D' = [] ∧ so2 :: s :: so1 :: nowSeg b11 ns :: [(b13, .row (sopC (kd, no, oa, oc, l)) 33 3)] :: [] = L') ?_ ?_
                ·
                  refine C.seq ?_
                  refine C.region ?_
                  refine G.moveB rfl trivial rfl rfl rfl ?_
                  refine G.moveB rfl trivial rfl rfl rfl ?_
                  refine G.skip rfl rfl rfl rfl rfl rfl ?_
                  refine G.skip rfl rfl rfl rfl rfl rfl ?_
                  refine G.skip rfl rfl rfl rfl rfl rfl ?_
                  refine G.skip rfl rfl rfl rfl rfl rfl ?_
                  refine G.skip rfl rfl rfl rfl rfl rfl ?_
                  first | refine G.pickT rfl trivial rfl rfl rfl rfl ?_ | refine G.pickF rfl trivial rfl rfl rfl rfl ?_
                  refine G.nil ?_
                  refine C.condF rfl ?_
                  refine C.skip ?_
                  have hmn : mg no = none := Classical.not_not.1 fun h => hin (hsh.rng.1 no h)
                  rw [shR_out hmn]
                  exact ⟨a20, c20, hr2 _ _, rfl, rfl, rfl, rfl, rfl, rfl, rfl, rfl, rfl, rfl, rfl⟩
                ·
                  rintro F D' L' ⟨ya, yc, hry, h1', h8, h10, h11, h12, h18, h19, h20, h21, rfl, rfl⟩
                  refine C.fix (d := 1) h1' ?_
                  refine C.fix (d := 8) h8 ?_
                  refine C.fix (d := 10) h10 ?_
                  refine C.fix (d := 11) h11 ?_
                  refine C.fix (d := 12) h12 ?_
                  refine C.fix (d := 18) h18 ?_
                  refine C.fix (d := 19) h19 ?_
                  refine C.fix (d := 20) h20 ?_
                  refine C.fix (d := 21) h21 ?_
                  refine C.seq ?_
                  refine C.region ?_
                  refine G.moveI rfl trivial rfl rfl rfl ?_
                  refine G.moveI rfl trivial rfl rfl rfl ?_
                  refine G.bin rfl trivial rfl rfl rfl rfl rfl ?_
                  refine G.moveB rfl trivial rfl rfl rfl ?_
                  refine G.no (t := 161) rfl (by simp) ?_
                  refine G.moveS rfl ⟨_, rfl, rfl, rfl⟩ rfl rfl rfl ?_
                  refine G.bytesStr (ansB (shR mg (bookR ps bd) no)) rfl ⟨_, rfl, rfl, rfl⟩ rfl rfl Try.underlying22 Try.underlying5 Try.underlying9 rfl rfl ((hr1 _ _).cons.cons) ?_
                  refine G.moveS rfl ⟨_, rfl, rfl, rfl⟩ rfl rfl rfl ?_
                  refine G.bytesStr (ansB (shR mg (bookR ps bd) no)) rfl ⟨_, rfl, rfl, rfl⟩ rfl rfl Try.underlying22 Try.underlying5 Try.underlying9 rfl rfl hry ?_
                  refine G.strNe rfl ⟨_, rfl, rfl, rfl⟩ rfl rfl  rfl rfl ?_
                  first | refine G.pickT rfl trivial rfl rfl rfl rfl ?_ | refine G.pickF rfl trivial rfl rfl rfl rfl ?_
                  refine G.nil ?_
                  refine C.no rfl (by simp) ?_
                  refine C.skip ?_
                  refine C.region ?_
                  refine G.moveI rfl trivial rfl rfl rfl ?_
                  refine G.addN (j := 1) rfl trivial rfl rfl rfl rfl (by omega) ?_
                  refine G.assignI rfl trivial rfl rfl rfl ?_
                  refine G.less (L' := s :: nowSeg b11 ns :: []) (fun _ h => h.tail.skip1.fewer (by simp)) ?_
                  refine G.nil ?_
                  exact ⟨ops.length - (i + 1) + 0, by omega, i + 1, mg, s, ns, rfl, by omega, by omega, hsh, hnw, rfl, rfl, rfl, rfl, rfl, rfl, rfl⟩
            · intro hg82
              refine G.skip rfl rfl rfl rfl rfl rfl ?_
              refine G.skip rfl rfl rfl rfl rfl rfl ?_
              refine G.skip rfl rfl rfl rfl rfl rfl ?_
              first | refine G.pickT rfl trivial rfl rfl rfl rfl ?_ | refine G.pickF rfl trivial rfl rfl rfl rfl ?_
              refine G.assignB rfl trivial rfl rfl rfl ?_
              refine G.fix (d := 14) (v := .bool false) rfl ?_
              refine G.nil ?_
              refine C.cut (fun F D' L' => ∃ (mg : Int → Option (List UInt8)) (s : Seg) (ns : List (Option Bpg)), ShIs W0 bs mg (bookR ps bd) (bookSeg b31 ps bd) s ∧ NowIs ns mg ∧ F 1 = .slice (some ⟨p, o, none⟩) ops.length cap1 ∧ F 8 = ptr b31 ∧ F 10 = ptr bs ∧ F 11 = ptr b11 ∧ F 12 = .int .i64 (i : Int) ∧ F 13 = ptr b13 ∧ F 14 = .bool false ∧ D' = [] ∧ s :: nowSeg b11 ns :: [(b13, .row (sopC (kd, no, oa, oc, l)) 33 3)] :: [] = L') ?_ ?_
              ·
                refine C.seq ?_
                refine C.region ?_
                refine G.fieldAddr rfl trivial rfl rfl Try.underlying33 rfl I3 rfl rfl ?_
                refine G.loadAt (by first | exact .here | exact .next .here | exact .next (.next .here) | exact .next (.next (.next .here)) | exact .next (.next (.next (.next .here))) | exact .next (.next (.next (.next (.next .here)))) | exact .next (.next (.next (.next (.next (.next .here))))) | exact .next (.next (.next (.next (.next (.next (.next .here)))))) | exact .in1 | exact .next .in1 | exact .next (.next .in1) | exact .next (.next (.next .in1)) | exact .next (.next (.next (.next .in1))) | exact .in2 | exact .next .in2 | exact .next (.next .in2) | exact .next (.next (.next .in2)) | exact .next (.next (.next (.next .in2))) | exact .app .here | exact .app (.next .here) | exact .app (.next (.next .here)) | exact .app (.next (.next (.next .here))) | exact .app (.next (.next (.next (.next .here)))) | exact .app (.next (.next (.next (.next (.next .here))))) | exact .app (.next (.next (.next (.next (.next (.next .here)))))) | exact .app (.next (.next (.next (.next (.next (.next (.next .here))))))) | exact .app .in1 | exact .app .in2 | exact .app (.next .in1) | exact .next (.app .in1) | exact .next (.next (.app .in1)) | exact .next (.app .here) | exact .next (.next (.app .here)) | exact .next (.next (.next (.app .here))) | exact .next (.next (.next (.next (.app .here))))) rfl trivial rfl rfl Try.underlying3 rfl rfl (by rfl) ?_
                refine G.bin rfl trivial rfl rfl rfl rfl rfl ?_
                refine G.nil ?_
                refine C.cond _ rfl ?_ ?_
                · intro hc4
                  refine C.seq ?_
                  refine C.region ?_
                  refine G.fieldAddr rfl trivial rfl rfl Try.underlying33 rfl I22 rfl rfl ?_
                  refine G.loadAt (by first | exact .here | exact .next .here | exact .next (.next .here) | exact .next (.next (.next .here)) | exact .next (.next (.next (.next .here))) | exact .next (.next (.next (.next (.next .here)))) | exact .next (.next (.next (.next (.next (.next .here))))) | exact .next (.next (.next (.next (.next (.next (.next .here)))))) | exact .in1 | exact .next .in1 | exact .next (.next .in1) | exact .next (.next (.next .in1)) | exact .next (.next (.next (.next .in1))) | exact .in2 | exact .next .in2 | exact .next (.next .in2) | exact .next (.next (.next .in2)) | exact .next (.next (.next (.next .in2))) | exact .app .here | exact .app (.next .here) | exact .app (.next (.next .here)) | exact .app (.next (.next (.next .here))) | exact .app (.next (.next (.next (.next .here)))) | exact .app (.next (.next (.next (.next (.next .here))))) | exact .app (.next (.next (.next (.next (.next (.next .here)))))) | exact .app (.next (.next (.next (.next (.next (.next (.next .here))))))) | exact .app .in1 | exact .app .in2 | exact .app (.next .in1) | exact .next (.app .in1) | exact .next (.next (.app .in1)) | exact .next (.app .here) | exact .next (.next (.app .here)) | exact .next (.next (.next (.app .here))) | exact .next (.next (.next (.next (.app .here))))) rfl trivial rfl rfl Try.underlying22 rfl rfl (by rfl) ?_
                  refine G.assignS rfl trivial rfl rfl rfl ?_
                  refine G.nil ?_
                  refine C.cut (fun F D' L' => ∃ (pa : Option Addr) (pc : Nat) (pl : List UInt8) (sp : Seg), (∀ L, Rd W0 (sp :: L) pa (bytesV pl)) ∧ pl.length ≤ 9223372036854775807 ∧ F 1 = .slice (some ⟨p, o, none⟩) ops.length cap1 ∧ F 8 = ptr b31 ∧ F 10 = ptr bs ∧ F 11 = ptr b11 ∧ F 12 = .int .i64 (i : Int) ∧ F 13 = ptr b13 ∧ F 14 = .bool false ∧ F 15 = .slice pa pl.length pc ∧ D' = [] ∧ sp :: s :: nowSeg b11 ns :: [(b13, .row (sopC (kd, no, oa, oc, l)) 33 3)] :: [] = L') ?_ ?_
                  ·
                    refine C.seq ?_
                    refine C.region ?_
                    refine G.moveS rfl trivial rfl rfl rfl ?_
                    refine G.lenSlice rfl trivial rfl rfl Try.underlying22 rfl ?_
                    refine G.bin rfl trivial rfl rfl rfl rfl rfl ?_
                    refine G.moveB rfl trivial rfl rfl rfl ?_
                    refine G.fork (t := 95) _ rfl ?_ ?_
                    · intro hg95
                      refine G.moveS rfl ⟨_, rfl, rfl, rfl⟩ rfl rfl rfl ?_
                      refine G.lenSlice rfl ⟨_, rfl, rfl, rfl⟩ rfl rfl Try.underlying22 rfl ?_
                      refine G.bin rfl ⟨_, rfl, rfl, rfl⟩ rfl rfl rfl rfl rfl ?_
                      first | refine G.pickT rfl trivial rfl rfl rfl rfl ?_ | refine G.pickF rfl trivial rfl rfl rfl rfl ?_
                      refine G.nil ?_
                      refine C.cond _ rfl ?_ ?_
                      · intro hc5
                        refine C.region ?_
                        refine G.moveS rfl trivial rfl rfl rfl ?_
                        refine G.call E10 rfl rfl trivial rfl rfl (of_spec W0 _ oa oc l (fun s => hor _)) rfl ?_
                        rintro e L2 ⟨bp, rfl, rfl⟩
                        refine G.assignS rfl trivial rfl rfl rfl ?_
                        refine G.nil ?_
                        exact ⟨some ⟨bp, 0, none⟩, 256, ofB l, _, fun L => Rd.row0 .here, by rw [ofB_length]; decide, rfl, rfl, rfl, rfl, rfl, rfl, rfl, by rw [ofB_length]; rfl, rfl, rfl⟩
                      · intro hc5
                        refine C.less (fun _ h => h.empty) ?_
                        refine C.skip ?_
                        exact ⟨oa, oc, l, [], fun L => hor _, by omega, rfl, rfl, rfl, rfl, rfl, rfl, rfl, rfl, rfl, rfl⟩
                    · intro hg95
                      refine G.skip rfl rfl rfl rfl rfl rfl ?_
                      refine G.skip rfl rfl rfl rfl rfl rfl ?_
                      refine G.skip rfl rfl rfl rfl rfl rfl ?_
                      first | refine G.pickT rfl trivial rfl rfl rfl rfl ?_ | refine G.pickF rfl trivial rfl rfl rfl rfl ?_
                      refine G.less (fun _ h => h.empty) ?_
                      refine G.nil ?_
                      refine C.condF rfl ?_
                      refine C.skip ?_
                      exact ⟨oa, oc, l, [], fun L => hor _, by omega, rfl, rfl, rfl, rfl, rfl, rfl, rfl, rfl, rfl, rfl⟩
                  ·
                    rintro F D' L' ⟨pa, pc, pl, sp, hpr, hpl, h1', h8, h10, h11, h12, h13, h14, h15, rfl, rfl⟩
                    refine C.fix (d := 1) h1' ?_
                    refine C.fix (d := 8) h8 ?_
                    refine C.fix (d := 10) h10 ?_
                    refine C.fix (d := 11) h11 ?_
                    refine C.fix (d := 12) h12 ?_
                    refine C.fix (d := 13) h13 ?_
                    refine C.fix (d := 14) h14 ?_
                    refine C.fix (d := 15) h15 ?_
                    refine C.seq ?_
                    refine C.region ?_
                    refine G.assignI rfl trivial rfl rfl rfl ?_
                    refine G.nil ?_
                    refine C.seq ?_
                    refine C.seq ?_
                    refine C.region ?_
                    refine G.moveB rfl trivial rfl rfl rfl ?_
                    first | refine G.notD rfl trivial rfl rfl rfl ?_ | refine G.not rfl trivial rfl rfl rfl ?_
                    refine G.nil ?_
                    refine C.condT rfl ?_
                    refine C.region ?_
                    refine G.assignI rfl trivial rfl rfl rfl ?_
                    refine G.nil ?_
                    refine C.seq ?_
                    refine C.region ?_
                    refine G.moveP rfl trivial rfl rfl rfl ?_
                    refine G.fieldAddr rfl trivial rfl rfl Try.underlying33 rfl I3 rfl rfl ?_
                    refine G.loadAt (by first | exact .here | exact .next .here | exact .next (.next .here) | exact .next (.next (.next .here)) | exact .next (.next (.next (.next .here))) | exact .next (.next (.next (.next (.next .here)))) | exact .next (.next (.next (.next (.next (.next .here))))) | exact .next (.next (.next (.next (.next (.next (.next .here)))))) | exact .in1 | exact .next .in1 | exact .next (.next .in1) | exact .next (.next (.next .in1)) | exact .next (.next (.next (.next .in1))) | exact .in2 | exact .next .in2 | exact .next (.next .in2) | exact .next (.next (.next .in2)) | exact .next (.next (.next (.next .in2))) | exact .app .here | exact .app (.next .here) | exact .app (.next (.next .here)) | exact .app (.next (.next (.next .here))) | exact .app (.next (.next (.next (.next .here)))) | exact .app (.next (.next (.next (.next (.next .here))))) | exact .app (.next (.next (.next (.next (.next (.next .here)))))) | exact .app (.next (.next (.next (.next (.next (.next (.next .here))))))) | exact .app .in1 | exact .app .in2 | exact .app (.next .in1) | exact .next (.app .in1) | exact .next (.next (.app .in1)) | exact .next (.app .here) | exact .next (.next (.app .here)) | exact .next (.next (.next (.app .here))) | exact .next (.next (.next (.next (.app .here))))) rfl trivial rfl rfl Try.underlying3 rfl rfl (by rfl) ?_
                    refine G.moveS rfl trivial rfl rfl rfl ?_
                    refine G.call E12 rfl rfl trivial rfl rfl (FnS.perm (sset_no W0 bs _ hsh no pa pc pl _ rfl 3 (setC_out hin) (by decide) (hpr _)) P2) rfl ?_
                    rintro e L2 ⟨s2, hsh2, rfl, rfl⟩
                    refine G.assignI rfl trivial rfl rfl rfl ?_
                    refine G.less (L' := s2 :: nowSeg b11 ns :: [(b13, .row (sopC (kd, no, oa, oc, l)) 33 3)] :: []) (fun _ h => h.skip1) ?_
                    refine G.nil ?_
                    refine C.seq ?_
                    refine C.seq ?_
                    refine C.region ?_
                    refine G.moveI rfl trivial rfl rfl rfl ?_
                    refine G.bin rfl trivial rfl rfl rfl rfl rfl ?_
                    refine G.moveI rfl trivial rfl rfl rfl ?_
                    refine G.bin rfl trivial rfl rfl rfl rfl rfl ?_
                    refine G.boolNe rfl trivial rfl rfl Try.underlying4 rfl rfl ?_
                    refine G.fix (d := 116) (v := .bool false) rfl ?_
                    refine G.moveB rfl trivial rfl rfl rfl ?_
                    refine G.moveB rfl ⟨_, rfl, rfl, rfl⟩ rfl rfl rfl ?_
                    refine G.moveB rfl ⟨_, rfl, rfl, rfl⟩ rfl rfl rfl ?_
                    refine G.skip rfl rfl rfl rfl rfl rfl ?_
                    refine G.skip rfl rfl rfl rfl rfl rfl ?_
                    refine G.skip rfl rfl rfl rfl rfl rfl ?_
                    first | refine G.pickT rfl ⟨_, rfl, rfl, rfl⟩ rfl rfl rfl rfl ?_ | refine G.pickF rfl ⟨_, rfl, rfl, rfl⟩ rfl rfl rfl rfl ?_
                    first | refine G.pickT rfl trivial rfl rfl rfl rfl ?_ | refine G.pickF rfl trivial rfl rfl rfl rfl ?_
                    refine G.nil ?_
                    refine C.condF rfl ?_
                    refine C.skip ?_
                    refine C.seq ?_
                    refine C.region ?_
                    refine G.moveI rfl trivial rfl rfl rfl ?_
                    refine G.bin rfl trivial rfl rfl rfl rfl rfl ?_
                    refine G.nil ?_
                    refine C.condF rfl ?_
                    refine C.skip ?_
                    exact ⟨mg, s2, ns, hsh2, hnw, rfl, rfl, rfl, rfl, rfl, rfl, rfl, rfl, rfl⟩
                · intro hc4
                  refine C.skip ?_
                  exact ⟨mg, s, ns, hsh, hnw, rfl, rfl, rfl, rfl, rfl, rfl, rfl, rfl, rfl⟩
              ·
                rintro F D' L' ⟨mg, s, ns, hsh, hnw, h1', h8, h10, h11, h12, h13, h14, rfl, rfl⟩
                refine C.fix (d := 1) h1' ?_
                refine C.fix (d := 8) h8 ?_
                refine C.fix (d := 10) h10 ?_
                refine C.fix (d := 11) h11 ?_
                refine C.fix (d := 12) h12 ?_
                refine C.fix (d := 13) h13 ?_
                refine C.fix (d := 14) h14 ?_
                refine C.seq ?_
                refine C.region ?_
                refine G.moveP rfl trivial rfl rfl rfl ?_
                refine G.fieldAddr rfl trivial rfl rfl Try.underlying33 rfl I3 rfl rfl ?_
                refine G.loadAt (by first | exact .here | exact .next .here | exact .next (.next .here) | exact .next (.next (.next .here)) | exact .next (.next (.next (.next .here))) | exact .next (.next (.next (.next (.next .here)))) | exact .next (.next (.next (.next (.next (.next .here))))) | exact .next (.next (.next (.next (.next (.next (.next .here)))))) | exact .in1 | exact .next .in1 | exact .next (.next .in1) | exact .next (.next (.next .in1)) | exact .next (.next (.next (.next .in1))) | exact .in2 | exact .next .in2 | exact .next (.next .in2) | exact .next (.next (.next .in2)) | exact .next (.next (.next (.next .in2))) | exact .app .here | exact .app (.next .here) | exact .app (.next (.next .here)) | exact .app (.next (.next (.next .here))) | exact .app (.next (.next (.next (.next .here)))) | exact .app (.next (.next (.next (.next (.next .here))))) | exact .app (.next (.next (.next (.next (.next (.next .here)))))) | exact .app (.next (.next (.next (.next (.next (.next (.next .here))))))) | exact .app .in1 | exact .app .in2 | exact .app (.next .in1) | exact .next (.app .in1) | exact .next (.next (.app .in1)) | exact .next (.app .here) | exact .next (.next (.app .here)) | exact .next (.next (.next (.app .here))) | exact .next (.next (.next (.next (.app .here))))) rfl trivial rfl rfl Try.underlying3 rfl rfl (by rfl) ?_
                refine G.call E13 rfl rfl trivial rfl rfl (spage_any W0 bs _ hsh no hno) rfl ?_
                rintro e L2 ⟨a18, c18, so1, hr1, rfl, rfl⟩
                refine G.moveU rfl trivial rfl rfl rfl ?_
                refine G.extractL rfl trivial rfl rfl rfl rfl ?_
                refine G.extractL rfl trivial rfl rfl rfl rfl ?_
                refine G.assignS rfl trivial rfl rfl rfl ?_
                refine G.assignI rfl trivial rfl rfl rfl ?_
                refine G.nil ?_
                refine C.seq ?_
                refine C.region ?_
                refine G.moveP rfl trivial rfl rfl rfl ?_
                refine G.fieldAddr rfl trivial rfl rfl Try.underlying33 rfl I3 rfl rfl ?_
                refine G.loadAt (by first | exact .here | exact .next .here | exact .next (.next .here) | exact .next (.next (.next .here)) | exact .next (.next (.next (.next .here))) | exact .next (.next (.next (.next (.next .here)))) | exact .next (.next (.next (.next (.next (.next .here))))) | exact .next (.next (.next (.next (.next (.next (.next .here)))))) | exact .in1 | exact .next .in1 | exact .next (.next .in1) | exact .next (.next (.next .in1)) | exact .next (.next (.next (.next .in1))) | exact .in2 | exact .next .in2 | exact .next (.next .in2) | exact .next (.next (.next .in2)) | exact .next (.next (.next (.next .in2))) | exact .app .here | exact .app (.next .here) | exact .app (.next (.next .here)) | exact .app (.next (.next (.next .here))) | exact .app (.next (.next (.next (.next .here)))) | exact .app (.next (.next (.next (.next (.next .here))))) | exact .app (.next (.next (.next (.next (.next (.next .here)))))) | exact .app (.next (.next (.next (.next (.next (.next (.next .here))))))) | exact .app .in1 | exact .app .in2 | exact .app (.next .in1) | exact .next (.app .in1) | exact .next (.next (.app .in1)) | exact .next (.app .here) | exact .next (.next (.app .here)) | exact .next (.next (.next (.app .here))) | exact .next (.next (.next (.next (.app .here))))) rfl trivial rfl rfl Try.underlying3 rfl rfl (by rfl) ?_
                refine G.call E14 rfl rfl trivial rfl rfl (FnS.perm (inner_any W0 bs _ hsh hsrc no hno) P2) rfl ?_
                rintro e L2 ⟨a20, c20, so2, hr2, rfl, rfl⟩
                refine G.moveU rfl trivial rfl rfl rfl ?_
                refine G.extractL rfl trivial rfl rfl rfl rfl ?_
                refine G.extractL rfl trivial rfl rfl rfl rfl ?_
                refine G.assignS rfl trivial rfl rfl rfl ?_
                refine G.assignI rfl trivial rfl rfl rfl ?_
                refine G.nil ?_
                refine C.cut (fun F D' L' => ∃ (ya : Option Addr) (yc : Nat), (Rd W0 (so2 :: s :: so1 :: nowSeg b11 ns :: [(b13, .row (sopC (kd, no, oa, oc, l)) 33 3)] :: []) ya (bytesV (ansB (shR mg (bookR ps bd) no)))) ∧ F 1 = .slice (some ⟨p, o, none⟩) ops.length cap1 ∧ F 8 = ptr b31 ∧ F 10 = ptr bs ∧ F 11 = ptr b11 ∧ F 12 = .int .i64 (i : Int) ∧ F 18 = .slice a18 (ansB (shR mg (bookR ps bd) no)).length c18 ∧ F 19 = .int .i64 (ansC (shR mg (bookR ps bd) no)) ∧ F 20 = .slice ya (ansB (shR mg (bookR ps bd) no)).length yc ∧ F 21 = .int .i64 (ansC (shR mg (bookR ps bd) no)) ∧ D' = [] ∧ so2 :: s :: so1 :: nowSeg b11 ns :: [(b13, .row (sopC (kd, no, oa, oc, l)) 33 3)] :: [] = L') ?_ ?_
                ·
                  refine C.seq ?_
                  refine C.region ?_
                  refine G.moveB rfl trivial rfl rfl rfl ?_
                  refine G.moveB rfl trivial rfl rfl rfl ?_
                  refine G.skip rfl rfl rfl rfl rfl rfl ?_
                  refine G.skip rfl rfl rfl rfl rfl rfl ?_
                  refine G.skip rfl rfl rfl rfl rfl rfl ?_
                  refine G.skip rfl rfl rfl rfl rfl rfl ?_
                  refine G.skip rfl rfl rfl rfl rfl rfl ?_
                  first | refine G.pickT rfl trivial rfl rfl rfl rfl ?_ | refine G.pickF rfl trivial rfl rfl rfl rfl ?_
                  refine G.nil ?_
                  refine C.condF rfl ?_
                  refine C.skip ?_
                  have hmn : mg no = none := Classical.not_not.1 fun h => hin (hsh.rng.1 no h)
                  rw [shR_out hmn]
                  exact ⟨a20, c20, hr2 _ _, rfl, rfl, rfl, rfl, rfl, rfl, rfl, rfl, rfl, rfl, rfl⟩
                ·
                  rintro F D' L' ⟨ya, yc, hry, h1', h8, h10, h11, h12, h18, h19, h20, h21, rfl, rfl⟩
                  refine C.fix (d := 1) h1' ?_
                  refine C.fix (d := 8) h8 ?_
                  refine C.fix (d := 10) h10 ?_
                  refine C.fix (d := 11) h11 ?_
                  refine C.fix (d := 12) h12 ?_
                  refine C.fix (d := 18) h18 ?_
                  refine C.fix (d := 19) h19 ?_
                  refine C.fix (d := 20) h20 ?_
                  refine C.fix (d := 21) h21 ?_
                  refine C.seq ?_
                  refine C.region ?_
                  refine G.moveI rfl trivial rfl rfl rfl ?_
                  refine G.moveI rfl trivial rfl rfl rfl ?_
                  refine G.bin rfl trivial rfl rfl rfl rfl rfl ?_
                  refine G.moveB rfl trivial rfl rfl rfl ?_
                  refine G.no (t := 161) rfl (by simp) ?_
                  refine G.moveS rfl ⟨_, rfl, rfl, rfl⟩ rfl rfl rfl ?_
                  refine G.bytesStr (ansB (shR mg (bookR ps bd) no)) rfl ⟨_, rfl, rfl, rfl⟩ rfl rfl Try.underlying22 Try.underlying5 Try.underlying9 rfl rfl ((hr1 _ _).cons.cons) ?_
                  refine G.moveS rfl ⟨_, rfl, rfl, rfl⟩ rfl rfl rfl ?_
                  refine G.bytesStr (ansB (shR mg (bookR ps bd) no)) rfl ⟨_, rfl, rfl, rfl⟩ rfl rfl Try.underlying22 Try.underlying5 Try.underlying9 rfl rfl hry ?_
                  refine G.strNe rfl ⟨_, rfl, rfl, rfl⟩ rfl rfl  rfl rfl ?_
                  first | refine G.pickT rfl trivial rfl rfl rfl rfl ?_ | refine G.pickF rfl trivial rfl rfl rfl rfl ?_
                  refine G.nil ?_
                  refine C.no rfl (by simp) ?_
                  refine C.skip ?_
                  refine C.region ?_
                  refine G.moveI rfl trivial rfl rfl rfl ?_
                  refine G.addN (j := 1) rfl trivial rfl rfl rfl rfl (by omega) ?_
                  refine G.assignI rfl trivial rfl rfl rfl ?_
                  refine G.less (L' := s :: nowSeg b11 ns :: []) (fun _ h => h.tail.skip1.fewer (by simp)) ?_
                  refine G.nil ?_
                  exact ⟨ops.length - (i + 1) + 0, by omega, i + 1, mg, s, ns, rfl, by omega, by omega, hsh, hnw, rfl, rfl, rfl, rfl, rfl, rfl, rfl⟩
        · intro hc3
          refine C.exit ?_
          refine C.seq ?_
          refine C.region ?_
          refine G.assignS rfl trivial rfl rfl rfl ?_
          refine G.nil ?_
          refine C.seq ?_
          refine C.seq ?_
          refine C.region ?_
          refine G.assignI rfl trivial rfl rfl rfl ?_
          refine G.less (fun _ h => h.empty) ?_
          refine G.nil ?_
          refine C.block ?_
          refine C.loop (fun m F D' L' => ∃ (k : Nat) (ims : List Im) (ao : Option Addr) (co : Nat) (so : Seg), m = 96 - k + 0 ∧ k ≤ 96 ∧ ims.length ≤ k ∧ ims.map imP = chK mg (bookR ps bd) k ∧ (∀ e ∈ ims, some e.2 ∈ ns) ∧ OwnS (.slice ao ims.length co) ims.length (ims.flatMap imC) 40 2 so ∧ F 8 = ptr b31 ∧ F 10 = ptr bs ∧ F 11 = ptr b11 ∧ F 22 = .slice ao ims.length co ∧ F 23 = .int .i64 (k : Int) ∧ D' = [] ∧ so :: s :: nowSeg b11 ns :: [] = L') ⟨_, ⟨0, [], none, 0, [], rfl, Nat.zero_le _, Nat.zero_le _, rfl, by simp, OwnS.nil _ _, rfl, rfl, rfl, rfl, rfl, rfl, rfl⟩⟩ ?_
          rintro m F D' L' ⟨k, ims, ao, co, so, rfl, hk, hil, him, hmem, hon, h8, h10, h11, h22, h23, rfl, rfl⟩
          refine C.fix (d := 8) h8 ?_
          refine C.fix (d := 10) h10 ?_
          refine C.fix (d := 11) h11 ?_
          refine C.fix (d := 22) h22 ?_
          refine C.fix (d := 23) h23 ?_
          refine C.seq ?_
          refine C.seq ?_
          refine C.region ?_
          refine G.moveI rfl trivial rfl rfl rfl ?_
          refine G.bin rfl trivial rfl rfl rfl rfl rfl ?_
          refine G.nil ?_
          refine C.cond _ rfl ?_ ?_
          · intro hc12
            have hk96 : k < 96 := by omega
            have hsl := slot_at (ns := ns) (k := k) (by have := hnw.1; omega)
            have hnv := hnw.2.2 k hk96
            refine C.skip ?_
            refine C.seq ?_
            refine C.block ?_
            refine C.seq ?_
            refine C.region ?_
            refine G.moveP rfl trivial rfl rfl rfl ?_
            refine G.moveI rfl trivial rfl rfl rfl ?_
            refine G.call E14 rfl rfl trivial rfl rfl (FnS.perm (inner_any W0 bs _ hsh hsrc (k : Int) (by omega)) P2) rfl ?_
            rintro e L2 ⟨a24, c24, so2, hr2, rfl, rfl⟩
            refine G.moveU rfl trivial rfl rfl rfl ?_
            refine G.extractL rfl trivial rfl rfl rfl rfl ?_
            refine G.extractL rfl trivial rfl rfl rfl rfl ?_
            refine G.assignS rfl trivial rfl rfl rfl ?_
            refine G.assignI rfl trivial rfl rfl rfl ?_
            refine G.nil ?_
            refine C.seq ?_
            refine C.drawn mixed (_) [] (fun _ h => h) ?_
            by_cases hsome : ∃ e, ns[k]! = some e
            ·
              obtain ⟨en, hen⟩ := hsome
              rw [hen] at hsl hnv
              have hmem2 : some en ∈ ns := by rw [← hen, getElem!_pos ns k (by have := hnw.1; omega)]; exact List.getElem_mem _
              refine GA.pure (i := 0) (fun _ _ _ _ _ h => h) rfl (by kernel_rfl) trivial rfl rfl (Y.moveI rfl rfl) (#[true, false, false, false, false, false, false, false, false, false, false, false, false, false, false, false, false]) (by kernel_rfl) ?_
              refine GA.pure (i := 1) (fun _ _ _ _ _ h => h) rfl (by kernel_rfl) trivial rfl rfl (Y.indexAddrArr rfl Try.underlying26 I22 rfl rfl (by omega)) (#[true, true, false, false, false, false, false, false, false, false, false, false, false, false, false, false, false]) (by kernel_rfl) ?_
              refine GA.read (i := 2) (fun _ _ _ _ _ h => h) rfl (by kernel_rfl) (by kernel_rfl) trivial rfl rfl (Y.loadAt (v := .slice (some ⟨en.1, 0, none⟩) en.2.2.2.length en.2.1) (.next (.next (.next .here))) rfl Try.underlying22 rfl rfl hsl) (#[true, true, true, false, false, false, false, false, false, false, false, false, false, false, false, false, false]) (by kernel_rfl) ?_
              refine GA.pure (i := 3) (fun _ _ _ _ _ h => h) rfl (by kernel_rfl) trivial rfl rfl (Y.slNe rfl Try.underlying22 rfl rfl) (#[true, true, true, true, false, false, false, false, false, false, false, false, false, false, false, false, false]) (by kernel_rfl) ?_
              refine GA.fix (d := 181) (v := .bool true) rfl ?_
              refine GA.pure (i := 4) (fun _ _ _ _ _ h => h) rfl (by kernel_rfl) trivial rfl rfl (Y.moveB rfl rfl) (#[true, true, true, true, true, false, false, false, false, false, false, false, false, false, false, false, false]) (by kernel_rfl) ?_
              refine GA.pure (i := 5) (fun _ _ _ _ _ h => h) rfl (by kernel_rfl) ⟨_, rfl, rfl, rfl⟩ rfl rfl (Y.moveI rfl rfl) (#[true, true, true, true, true, true, false, false, false, false, false, false, false, false, false, false, false]) (by kernel_rfl) ?_
              refine GA.pure (i := 6) (fun _ _ _ _ _ h => h) rfl (by kernel_rfl) ⟨_, rfl, rfl, rfl⟩ rfl rfl (Y.bin rfl rfl rfl rfl) (#[true, true, true, true, true, true, true, false, false, false, false, false, false, false, false, false, false]) (by kernel_rfl) ?_
              refine GA.pure (i := 7) (fun _ _ _ _ _ h => h) rfl (by kernel_rfl) ⟨_, rfl, rfl, rfl⟩ rfl rfl (Y.moveB rfl rfl) (#[true, true, true, true, true, true, true, true, false, false, false, false, false, false, false, false, false]) (by kernel_rfl) ?_
              refine GA.fork (t := 185) _ rfl ?_ ?_
              · intro hg185
                refine GA.skip (i := 8) (fun _ _ _ _ _ h => h) rfl (by kernel_rfl) rfl rfl rfl rfl rfl rfl (#[true, true, true, true, true, true, true, true, true, false, false, false, false, false, false, false, false]) (by kernel_rfl) ?_
                refine GA.skip (i := 9) (fun _ _ _ _ _ h => h) rfl (by kernel_rfl) rfl rfl rfl rfl rfl rfl (#[true, true, true, true, true, true, true, true, true, true, false, false, false, false, false, false, false]) (by kernel_rfl) ?_
                refine GA.skip (i := 10) (fun _ _ _ _ _ h => h) rfl (by kernel_rfl) rfl rfl rfl rfl rfl rfl (#[true, true, true, true, true, true, true, true, true, true, true, false, false, false, false, false, false]) (by kernel_rfl) ?_
                refine GA.skip (i := 11) (fun _ _ _ _ _ h => h) rfl (by kernel_rfl) rfl rfl rfl rfl rfl rfl (#[true, true, true, true, true, true, true, true, true, true, true, true, false, false, false, false, false]) (by kernel_rfl) ?_
                refine GA.skip (i := 12) (fun _ _ _ _ _ h => h) rfl (by kernel_rfl) rfl rfl rfl rfl rfl rfl (#[true, true, true, true, true, true, true, true, true, true, true, true, true, false, false, false, false]) (by kernel_rfl) ?_
                refine GA.skip (i := 13) (fun _ _ _ _ _ h => h) rfl (by kernel_rfl) rfl rfl rfl rfl rfl rfl (#[true, true, true, true, true, true, true, true, true, true, true, true, true, true, false, false, false]) (by kernel_rfl) ?_
                refine GA.skip (i := 14) (fun _ _ _ _ _ h => h) rfl (by kernel_rfl) rfl rfl rfl rfl rfl rfl (#[true, true, true, true, true, true, true, true, true, true, true, true, true, true, true, false, false]) (by kernel_rfl) ?_
                first | refine GA.pure (i := 15) (fun _ _ _ _ _ h => h) rfl (by kernel_rfl) ⟨_, rfl, rfl, rfl⟩ rfl rfl (Y.pickT rfl rfl rfl) (#[true, true, true, true, true, true, true, true, true, true, true, true, true, true, true, true, false]) (by kernel_rfl) ?_ | refine GA.pure (i := 15) (fun _ _ _ _ _ h => h) rfl (by kernel_rfl) ⟨_, rfl, rfl, rfl⟩ rfl rfl (Y.pickF rfl rfl rfl) (#[true, true, true, true, true, true, true, true, true, true, true, true, true, true, true, true, false]) (by kernel_rfl) ?_
                first | refine GA.pure (i := 16) (fun _ _ _ _ _ h => h) rfl (by kernel_rfl) trivial rfl rfl (Y.pickT rfl rfl rfl) (#[true, true, true, true, true, true, true, true, true, true, true, true, true, true, true, true, true]) (by kernel_rfl) ?_ | refine GA.pure (i := 16) (fun _ _ _ _ _ h => h) rfl (by kernel_rfl) trivial rfl rfl (Y.pickF rfl rfl rfl) (#[true, true, true, true, true, true, true, true, true, true, true, true, true, true, true, true, true]) (by kernel_rfl) ?_
                refine GA.done (by kernel_rfl) ?_
                refine C.condT rfl ?_
                refine C.region ?_
                refine G.moveS rfl trivial rfl rfl rfl ?_
                refine G.moveI rfl trivial rfl rfl rfl ?_
                refine G.moveI rfl trivial rfl rfl rfl ?_
                refine G.indexAddrArr rfl trivial rfl rfl Try.underlying26 I22 rfl rfl (by omega) ?_
                refine G.loadAt (v := .slice (some ⟨en.1, 0, none⟩) en.2.2.2.length en.2.1) (.next (.next (.next .here))) rfl trivial rfl rfl Try.underlying22 rfl rfl hsl ?_
                refine G.buildL (cs := imC ((k : Int), en)) rfl trivial rfl rfl Try.underlying40 I40 B40 rfl rfl ?_
                refine G.buildSliceL (cs := imC ((k : Int), en)) (zs := [(.int .i64 0), (.slice none 0 0)]) rfl trivial rfl rfl Try.underlying38 I40 rfl (by kernel_rfl) rfl rfl ?_
                intro b201
                refine G.less (L' := so :: [(b201, .row (imC ((k : Int), en)) 40 2)] :: s :: nowSeg b11 ns :: []) (fun _ h => mem_app h) ?_
                refine G.append hon rfl trivial rfl rfl Try.underlying38 Try.underlying38 I40 rfl (by decide) rfl rfl (by decide) (Rd.row0 (.next .here)) rfl (imC_ok _) (by omega) ?_
                intro v202 s202 hv202
                obtain ⟨a202, c202, rfl, _⟩ := hv202.form
                refine G.assignS rfl trivial rfl rfl rfl ?_
                refine G.less (L' := s202 :: s :: nowSeg b11 ns :: []) (fun _ h => h.skip1) ?_
                refine G.nil ?_
                refine C.region ?_
                refine G.moveI rfl trivial rfl rfl rfl ?_
                refine G.addN (j := 1) rfl trivial rfl rfl rfl rfl (by omega) ?_
                refine G.assignI rfl trivial rfl rfl rfl ?_
                refine G.nil ?_
                have hch := chg_some (R := bookR ps bd) (no := (k : Int)) hnv.symm (.inl hg185)
                have e1 : (ims ++ [((k : Int), en)]).length = ims.length + 1 := by simp
                exact ⟨96 - (k + 1) + 0, by omega, k + 1, ims ++ [((k : Int), en)], a202, c202, s202, rfl, by omega, by omega, by rw [List.map_append, him, chK_succ, hch]; rfl, fun e he => (by rcases List.mem_append.1 he with he | he; exact hmem e he; rw [List.mem_singleton.1 he]; exact hmem2), by rw [e1, List.flatMap_append]; simpa using hv202, rfl, rfl, rfl, by rw [e1]; rfl, rfl, rfl, rfl⟩
              · intro hg185
                refine GA.pure (i := 8) (fun _ _ _ _ _ h => h) rfl (by kernel_rfl) ⟨_, rfl, rfl, rfl⟩ rfl rfl (Y.moveI rfl rfl) (#[true, true, true, true, true, true, true, true, true, false, false, false, false, false, false, false, false]) (by kernel_rfl) ?_
                refine GA.pure (i := 9) (fun _ _ _ _ _ h => h) rfl (by kernel_rfl) ⟨_, rfl, rfl, rfl⟩ rfl rfl (Y.indexAddrArr rfl Try.underlying26 I22 rfl rfl (by omega)) (#[true, true, true, true, true, true, true, true, true, true, false, false, false, false, false, false, false]) (by kernel_rfl) ?_
                refine GA.read (i := 10) (fun _ _ _ _ _ h => h) rfl (by kernel_rfl) (by kernel_rfl) ⟨_, rfl, rfl, rfl⟩ rfl rfl (Y.loadAt (v := .slice (some ⟨en.1, 0, none⟩) en.2.2.2.length en.2.1) (.next (.next (.next .here))) rfl Try.underlying22 rfl rfl hsl) (#[true, true, true, true, true, true, true, true, true, true, true, false, false, false, false, false, false]) (by kernel_rfl) ?_
                refine GA.read (i := 11) (fun _ _ _ _ _ h => h) rfl (by kernel_rfl) (by kernel_rfl) ⟨_, rfl, rfl, rfl⟩ rfl rfl (Y.bytesStr en.2.2.2 rfl Try.underlying22 Try.underlying5 Try.underlying9 rfl rfl ((now_rd hmem2 _).cons.cons.cons)) (#[true, true, true, true, true, true, true, true, true, true, true, true, false, false, false, false, false]) (by kernel_rfl) ?_
                refine GA.pure (i := 12) (fun _ _ _ _ _ h => h) rfl (by kernel_rfl) ⟨_, rfl, rfl, rfl⟩ rfl rfl (Y.moveS rfl rfl) (#[true, true, true, true, true, true, true, true, true, true, true, true, true, false, false, false, false]) (by kernel_rfl) ?_
                refine GA.read (i := 13) (fun _ _ _ _ _ h => h) rfl (by kernel_rfl) (by kernel_rfl) ⟨_, rfl, rfl, rfl⟩ rfl rfl (Y.bytesStr (ansB (bookR ps bd (k : Int))) rfl Try.underlying22 Try.underlying5 Try.underlying9 rfl rfl (hr2 _ _)) (#[true, true, true, true, true, true, true, true, true, true, true, true, true, true, false, false, false]) (by kernel_rfl) ?_
                refine GA.pure (i := 14) (fun _ _ _ _ _ h => h) rfl (by kernel_rfl) ⟨_, rfl, rfl, rfl⟩ rfl rfl (Y.strNe rfl  rfl rfl) (#[true, true, true, true, true, true, true, true, true, true, true, true, true, true, true, false, false]) (by kernel_rfl) ?_
                first | refine GA.pure (i := 15) (fun _ _ _ _ _ h => h) rfl (by kernel_rfl) ⟨_, rfl, rfl, rfl⟩ rfl rfl (Y.pickT rfl rfl rfl) (#[true, true, true, true, true, true, true, true, true, true, true, true, true, true, true, true, false]) (by kernel_rfl) ?_ | refine GA.pure (i := 15) (fun _ _ _ _ _ h => h) rfl (by kernel_rfl) ⟨_, rfl, rfl, rfl⟩ rfl rfl (Y.pickF rfl rfl rfl) (#[true, true, true, true, true, true, true, true, true, true, true, true, true, true, true, true, false]) (by kernel_rfl) ?_
                first | refine GA.pure (i := 16) (fun _ _ _ _ _ h => h) rfl (by kernel_rfl) trivial rfl rfl (Y.pickT rfl rfl rfl) (#[true, true, true, true, true, true, true, true, true, true, true, true, true, true, true, true, true]) (by kernel_rfl) ?_ | refine GA.pure (i := 16) (fun _ _ _ _ _ h => h) rfl (by kernel_rfl) trivial rfl rfl (Y.pickF rfl rfl rfl) (#[true, true, true, true, true, true, true, true, true, true, true, true, true, true, true, true, true]) (by kernel_rfl) ?_
                refine GA.done (by kernel_rfl) ?_
                refine C.cond _ rfl ?_ ?_
                · intro hc13
                  refine C.region ?_
                  refine G.moveS rfl trivial rfl rfl rfl ?_
                  refine G.moveI rfl trivial rfl rfl rfl ?_
                  refine G.moveI rfl trivial rfl rfl rfl ?_
                  refine G.indexAddrArr rfl trivial rfl rfl Try.underlying26 I22 rfl rfl (by omega) ?_
                  refine G.loadAt (v := .slice (some ⟨en.1, 0, none⟩) en.2.2.2.length en.2.1) (.next (.next (.next .here))) rfl trivial rfl rfl Try.underlying22 rfl rfl hsl ?_
                  refine G.buildL (cs := imC ((k : Int), en)) rfl trivial rfl rfl Try.underlying40 I40 B40 rfl rfl ?_
                  refine G.buildSliceL (cs := imC ((k : Int), en)) (zs := [(.int .i64 0), (.slice none 0 0)]) rfl trivial rfl rfl Try.underlying38 I40 rfl (by kernel_rfl) rfl rfl ?_
                  intro b201
                  refine G.less (L' := so :: [(b201, .row (imC ((k : Int), en)) 40 2)] :: s :: nowSeg b11 ns :: []) (fun _ h => mem_app h) ?_
                  refine G.append hon rfl trivial rfl rfl Try.underlying38 Try.underlying38 I40 rfl (by decide) rfl rfl (by decide) (Rd.row0 (.next .here)) rfl (imC_ok _) (by omega) ?_
                  intro v202 s202 hv202
                  obtain ⟨a202, c202, rfl, _⟩ := hv202.form
                  refine G.assignS rfl trivial rfl rfl rfl ?_
                  refine G.less (L' := s202 :: s :: nowSeg b11 ns :: []) (fun _ h => h.skip1) ?_
                  refine G.nil ?_
                  refine C.region ?_
                  refine G.moveI rfl trivial rfl rfl rfl ?_
                  refine G.addN (j := 1) rfl trivial rfl rfl rfl rfl (by omega) ?_
                  refine G.assignI rfl trivial rfl rfl rfl ?_
                  refine G.nil ?_
                  have hch := chg_some (R := bookR ps bd) (no := (k : Int)) hnv.symm (.inr fun h => hc13 (by rw [h]))
                  have e1 : (ims ++ [((k : Int), en)]).length = ims.length + 1 := by simp
                  exact ⟨96 - (k + 1) + 0, by omega, k + 1, ims ++ [((k : Int), en)], a202, c202, s202, rfl, by omega, by omega, by rw [List.map_append, him, chK_succ, hch]; rfl, fun e he => (by rcases List.mem_append.1 he with he | he; exact hmem e he; rw [List.mem_singleton.1 he]; exact hmem2), by rw [e1, List.flatMap_append]; simpa using hv202, rfl, rfl, rfl, by rw [e1]; rfl, rfl, rfl, rfl⟩
                · intro hc13
                  refine C.skip ?_
                  refine C.region ?_
                  refine G.less (L' := so :: s :: nowSeg b11 ns :: []) (fun _ h => h.tail.perm2) ?_
                  refine G.moveI rfl trivial rfl rfl rfl ?_
                  refine G.addN (j := 1) rfl trivial rfl rfl rfl rfl (by omega) ?_
                  refine G.assignI rfl trivial rfl rfl rfl ?_
                  refine G.nil ?_
                  have hch := chg_no (R := bookR ps bd) (no := (k : Int)) hnv.symm (hse _) (Classical.not_not.1 hg185) (strB_inj.1 (Classical.not_not.1 hc13)).symm
                  exact ⟨96 - (k + 1) + 0, by omega, k + 1, ims, ao, co, so, rfl, by omega, by omega, by rw [him, chK_succ, hch]; simp, hmem, hon, rfl, rfl, rfl, rfl, rfl, rfl, rfl⟩
            ·
              have hen : ns[k]! = none := by
                cases hq : ns[k]! with
                | none => rfl
                | some e => exact absurd ⟨e, hq⟩ hsome
              rw [hen] at hsl hnv
              refine GA.pure (i := 0) (fun _ _ _ _ _ h => h) rfl (by kernel_rfl) trivial rfl rfl (Y.moveI rfl rfl) (#[true, false, false, false, false, false, false, false, false, false, false, false, false, false, false, false, false]) (by kernel_rfl) ?_
              refine GA.pure (i := 1) (fun _ _ _ _ _ h => h) rfl (by kernel_rfl) trivial rfl rfl (Y.indexAddrArr rfl Try.underlying26 I22 rfl rfl (by omega)) (#[true, true, false, false, false, false, false, false, false, false, false, false, false, false, false, false, false]) (by kernel_rfl) ?_
              refine GA.read (i := 2) (fun _ _ _ _ _ h => h) rfl (by kernel_rfl) (by kernel_rfl) trivial rfl rfl (Y.loadAt (v := nilS) (.next (.next (.next .here))) rfl Try.underlying22 rfl rfl hsl) (#[true, true, true, false, false, false, false, false, false, false, false, false, false, false, false, false, false]) (by kernel_rfl) ?_
              refine GA.pure (i := 3) (fun _ _ _ _ _ h => h) rfl (by kernel_rfl) trivial rfl rfl (Y.slNe rfl Try.underlying22 rfl rfl) (#[true, true, true, true, false, false, false, false, false, false, false, false, false, false, false, false, false]) (by kernel_rfl) ?_
              refine GA.fix (d := 181) (v := .bool false) rfl ?_
              refine GA.pure (i := 4) (fun _ _ _ _ _ h => h) rfl (by kernel_rfl) trivial rfl rfl (Y.moveB rfl rfl) (#[true, true, true, true, true, false, false, false, false, false, false, false, false, false, false, false, false]) (by kernel_rfl) ?_
              refine GA.skip (i := 5) (fun _ _ _ _ _ h => h) rfl (by kernel_rfl) rfl rfl rfl rfl rfl rfl (#[true, true, true, true, true, true, false, false, false, false, false, false, false, false, false, false, false]) (by kernel_rfl) ?_
              refine GA.skip (i := 6) (fun _ _ _ _ _ h => h) rfl (by kernel_rfl) rfl rfl rfl rfl rfl rfl (#[true, true, true, true, true, true, true, false, false, false, false, false, false, false, false, false, false]) (by kernel_rfl) ?_
              refine GA.skip (i := 7) (fun _ _ _ _ _ h => h) rfl (by kernel_rfl) rfl rfl rfl rfl rfl rfl (#[true, true, true, true, true, true, true, true, false, false, false, false, false, false, false, false, false]) (by kernel_rfl) ?_
              refine GA.skipU (i := 8) (fun _ _ _ _ _ h => h) rfl (by kernel_rfl) rfl rfl rfl rfl rfl rfl (#[true, true, true, true, true, true, true, true, true, false, false, false, false, false, false, false, false]) (by kernel_rfl) ?_
              refine GA.skipU (i := 9) (fun _ _ _ _ _ h => h) rfl (by kernel_rfl) rfl rfl rfl rfl rfl rfl (#[true, true, true, true, true, true, true, true, true, true, false, false, false, false, false, false, false]) (by kernel_rfl) ?_
              refine GA.skipU (i := 10) (fun _ _ _ _ _ h => h) rfl (by kernel_rfl) rfl rfl rfl rfl rfl rfl (#[true, true, true, true, true, true, true, true, true, true, true, false, false, false, false, false, false]) (by kernel_rfl) ?_
              refine GA.skipU (i := 11) (fun _ _ _ _ _ h => h) rfl (by kernel_rfl) rfl rfl rfl rfl rfl rfl (#[true, true, true, true, true, true, true, true, true, true, true, true, false, false, false, false, false]) (by kernel_rfl) ?_
              refine GA.skipU (i := 12) (fun _ _ _ _ _ h => h) rfl (by kernel_rfl) rfl rfl rfl rfl rfl rfl (#[true, true, true, true, true, true, true, true, true, true, true, true, true, false, false, false, false]) (by kernel_rfl) ?_
              refine GA.skipU (i := 13) (fun _ _ _ _ _ h => h) rfl (by kernel_rfl) rfl rfl rfl rfl rfl rfl (#[true, true, true, true, true, true, true, true, true, true, true, true, true, true, false, false, false]) (by kernel_rfl) ?_
              refine GA.skipU (i := 14) (fun _ _ _ _ _ h => h) rfl (by kernel_rfl) rfl rfl rfl rfl rfl rfl (#[true, true, true, true, true, true, true, true, true, true, true, true, true, true, true, false, false]) (by kernel_rfl) ?_
              refine GA.skip (i := 15) (fun _ _ _ _ _ h => h) rfl (by kernel_rfl) rfl rfl rfl rfl rfl rfl (#[true, true, true, true, true, true, true, true, true, true, true, true, true, true, true, true, false]) (by kernel_rfl) ?_
              first | refine GA.pure (i := 16) (fun _ _ _ _ _ h => h) rfl (by kernel_rfl) trivial rfl rfl (Y.pickT rfl rfl rfl) (#[true, true, true, true, true, true, true, true, true, true, true, true, true, true, true, true, true]) (by kernel_rfl) ?_ | refine GA.pure (i := 16) (fun _ _ _ _ _ h => h) rfl (by kernel_rfl) trivial rfl rfl (Y.pickF rfl rfl rfl) (#[true, true, true, true, true, true, true, true, true, true, true, true, true, true, true, true, true]) (by kernel_rfl) ?_
              refine GA.done (by kernel_rfl) ?_
              refine C.condF rfl ?_
              refine C.skip ?_
              refine C.region ?_
              refine G.less (L' := so :: s :: nowSeg b11 ns :: []) (fun _ h => h.tail.perm2) ?_
              refine G.moveI rfl trivial rfl rfl rfl ?_
              refine G.addN (j := 1) rfl trivial rfl rfl rfl rfl (by omega) ?_
              refine G.assignI rfl trivial rfl rfl rfl ?_
              refine G.nil ?_
              have hch := chg1_none (R := bookR ps bd) (no := (k : Int)) hnv.symm
              exact ⟨96 - (k + 1) + 0, by omega, k + 1, ims, ao, co, so, rfl, by omega, by omega, by rw [him, chK_succ, hch]; simp, hmem, hon, rfl, rfl, rfl, rfl, rfl, rfl, rfl⟩
          · intro hc12
            obtain rfl : k = 96 := by omega
            obtain ⟨a9, c9, h9, hron⟩ := hon.form
            cases h9
            refine C.exit ?_
            refine C.seq ?_
            refine C.region ?_
            refine G.moveP rfl trivial rfl rfl rfl ?_
            refine G.call E16 rfl rfl trivial rfl rfl (FnS.perm (schanges_spec W0 bs _ hsh) P2) rfl ?_
            rintro e L2 ⟨ac, cc, s3, s4, hi204, rfl, rfl⟩
            obtain ⟨ims1, hm1, hcp1, hon1, rfl⟩ := hi204
            obtain ⟨az, cz, haz, hrd1⟩ := hon1.form
            simp only [Value.slice.injEq] at haz
            obtain ⟨rfl, hln, rfl⟩ := haz
            refine G.moveS rfl trivial rfl rfl rfl ?_
            refine G.call E15 rfl rfl trivial rfl rfl (eqIms_spec W0 _ ac ao cc co _ _ ims1 ims hln.symm rfl (hrd1 W0 _) ((hron W0 _).cons.cons.cons) (fun e he => (ims_rd he).cons) (fun e he => (now_rd (hmem e he) _).cons.cons.cons.cons) (by have h := congrArg List.length (hm1.trans him.symm); simp at h; omega) (hm1.trans him.symm)) rfl ?_
            rintro e L2 ⟨rfl, rfl⟩
            refine G.assignB rfl trivial rfl rfl rfl ?_
            refine G.nil ?_
            refine C.ret ?_
            -- end g45Fg69Tc3Fc12F
            exact ⟨rfl, _, Res.of (rs := [.tmp 6]) rfl rfl, rfl⟩
      · intro hg69
        refine G.skip rfl rfl rfl rfl rfl rfl ?_
        refine G.skip rfl rfl rfl rfl rfl rfl ?_
        first | refine G.pickT rfl trivial rfl rfl rfl rfl ?_ | refine G.pickF rfl trivial rfl rfl rfl rfl ?_
        refine G.nil ?_
        refine C.condF rfl ?_
        refine C.exit ?_
        refine C.seq ?_
        refine C.region ?_
        refine G.assignS rfl trivial rfl rfl rfl ?_
        refine G.nil ?_
        refine C.seq ?_
        refine C.seq ?_
        refine C.region ?_
        refine G.assignI rfl trivial rfl rfl rfl ?_
        refine G.less (fun _ h => h.empty) ?_
        refine G.nil ?_
        refine C.block ?_
        refine C.loop (fun m F D' L' => ∃ (k : Nat) (ims : List Im) (ao : Option Addr) (co : Nat) (so : Seg), m = 96 - k + 0 ∧ k ≤ 96 ∧ ims.length ≤ k ∧ ims.map imP = chK mg (bookR ps bd) k ∧ (∀ e ∈ ims, some e.2 ∈ ns) ∧ OwnS (.slice ao ims.length co) ims.length (ims.flatMap imC) 40 2 so ∧ F 8 = ptr b31 ∧ F 10 = ptr bs ∧ F 11 = ptr b11 ∧ F 22 = .slice ao ims.length co ∧ F 23 = .int .i64 (k : Int) ∧ D' = [] ∧ so :: s :: nowSeg b11 ns :: [] = L') ⟨_, ⟨0, [], none, 0, [], rfl, Nat.zero_le _, Nat.zero_le _, rfl, by simp, OwnS.nil _ _, rfl, rfl, rfl, rfl, rfl, rfl, rfl⟩⟩ ?_
        rintro m F D' L' ⟨k, ims, ao, co, so, rfl, hk, hil, him, hmem, hon, h8, h10, h11, h22, h23, rfl, rfl⟩
        refine C.fix (d := 8) h8 ?_
        refine C.fix (d := 10) h10 ?_
        refine C.fix (d := 11) h11 ?_
        refine C.fix (d := 22) h22 ?_
        refine C.fix (d := 23) h23 ?_
        refine C.seq ?_
        refine C.seq ?_
        refine C.region ?_
        refine G.moveI rfl trivial rfl rfl rfl ?_
        refine G.bin rfl trivial rfl rfl rfl rfl rfl ?_
        refine G.nil ?_
        refine C.cond _ rfl ?_ ?_
        · intro hc12
          have hk96 : k < 96 := by omega
          have hsl := slot_at (ns := ns) (k := k) (by have := hnw.1; omega)
          have hnv := hnw.2.2 k hk96
          refine C.skip ?_
          refine C.seq ?_
          refine C.block ?_
          refine C.seq ?_
          refine C.region ?_
          refine G.moveP rfl trivial rfl rfl rfl ?_
          refine G.moveI rfl trivial rfl rfl rfl ?_
          refine G.call E14 rfl rfl trivial rfl rfl (FnS.perm (inner_any W0 bs _ hsh hsrc (k : Int) (by omega)) P2) rfl ?_
          rintro e L2 ⟨a24, c24, so2, hr2, rfl, rfl⟩
          refine G.moveU rfl trivial rfl rfl rfl ?_
          refine G.extractL rfl trivial rfl rfl rfl rfl ?_
          refine G.extractL rfl trivial rfl rfl rfl rfl ?_
          refine G.assignS rfl trivial rfl rfl rfl ?_
          refine G.assignI rfl trivial rfl rfl rfl ?_
          refine G.nil ?_
          refine C.seq ?_
          refine C.drawn mixed (_) [] (fun _ h => h) ?_
          by_cases hsome : ∃ e, ns[k]! = some e
          ·
            obtain ⟨en, hen⟩ := hsome
            rw [hen] at hsl hnv
            have hmem2 : some en ∈ ns := by rw [← hen, getElem!_pos ns k (by have := hnw.1; omega)]; exact List.getElem_mem _
            refine GA.pure (i := 0) (fun _ _ _ _ _ h => h) rfl (by kernel_rfl) trivial rfl rfl (Y.moveI rfl rfl) (#[true, false, false, false, false, false, false, false, false, false, false, false, false, false, false, false, false]) (by kernel_rfl) ?_
            refine GA.pure (i := 1) (fun _ _ _ _ _ h => h) rfl (by kernel_rfl) trivial rfl rfl (Y.indexAddrArr rfl Try.underlying26 I22 rfl rfl (by omega)) (#[true, true, false, false, false, false, false, false, false, false, false, false, false, false, false, false, false]) (by kernel_rfl) ?_
            refine GA.read (i := 2) (fun _ _ _ _ _ h => h) rfl (by kernel_rfl) (by kernel_rfl) trivial rfl rfl (Y.loadAt (v := .slice (some ⟨en.1, 0, none⟩) en.2.2.2.length en.2.1) (.next (.next (.next .here))) rfl Try.underlying22 rfl rfl hsl) (#[true, true, true, false, false, false, false, false, false, false, false, false, false, false, false, false, false]) (by kernel_rfl) ?_
            refine GA.pure (i := 3) (fun _ _ _ _ _ h => h) rfl (by kernel_rfl) trivial rfl rfl (Y.slNe rfl Try.underlying22 rfl rfl) (#[true, true, true, true, false, false, false, false, false, false, false, false, false, false, false, false, false]) (by kernel_rfl) ?_
            refine GA.fix (d := 181) (v := .bool true) rfl ?_
            refine GA.pure (i := 4) (fun _ _ _ _ _ h => h) rfl (by kernel_rfl) trivial rfl rfl (Y.moveB rfl rfl) (#[true, true, true, true, true, false, false, false, false, false, false, false, false, false, false, false, false]) (by kernel_rfl) ?_
            refine GA.pure (i := 5) (fun _ _ _ _ _ h => h) rfl (by kernel_rfl) ⟨_, rfl, rfl, rfl⟩ rfl rfl (Y.moveI rfl rfl) (#[true, true, true, true, true, true, false, false, false, false, false, false, false, false, false, false, false]) (by kernel_rfl) ?_
            refine GA.pure (i := 6) (fun _ _ _ _ _ h => h) rfl (by kernel_rfl) ⟨_, rfl, rfl, rfl⟩ rfl rfl (Y.bin rfl rfl rfl rfl) (#[true, true, true, true, true, true, true, false, false, false, false, false, false, false, false, false, false]) (by kernel_rfl) ?_
            refine GA.pure (i := 7) (fun _ _ _ _ _ h => h) rfl (by kernel_rfl) ⟨_, rfl, rfl, rfl⟩ rfl rfl (Y.moveB rfl rfl) (#[true, true, true, true, true, true, true, true, false, false, false, false, false, false, false, false, false]) (by kernel_rfl) ?_
            refine GA.fork (t := 185) _ rfl ?_ ?_
            · intro hg185
              refine GA.skip (i := 8) (fun _ _ _ _ _ h => h) rfl (by kernel_rfl) rfl rfl rfl rfl rfl rfl (#[true, true, true, true, true, true, true, true, true, false, false, false, false, false, false, false, false]) (by kernel_rfl) ?_
              refine GA.skip (i := 9) (fun _ _ _ _ _ h => h) rfl (by kernel_rfl) rfl rfl rfl rfl rfl rfl (#[true, true, true, true, true, true, true, true, true, true, false, false, false, false, false, false, false]) (by kernel_rfl) ?_
              refine GA.skip (i := 10) (fun _ _ _ _ _ h => h) rfl (by kernel_rfl) rfl rfl rfl rfl rfl rfl (#[true, true, true, true, true, true, true, true, true, true, true, false, false, false, false, false, false]) (by kernel_rfl) ?_
              refine GA.skip (i := 11) (fun _ _ _ _ _ h => h) rfl (by kernel_rfl) rfl rfl rfl rfl rfl rfl (#[true, true, true, true, true, true, true, true, true, true, true, true, false, false, false, false, false]) (by kernel_rfl) ?_
              refine GA.skip (i := 12) (fun _ _ _ _ _ h => h) rfl (by kernel_rfl) rfl rfl rfl rfl rfl rfl (#[true, true, true, true, true, true, true, true, true, true, true, true, true, false, false, false, false]) (by kernel_rfl) ?_
              refine GA.skip (i := 13) (fun _ _ _ _ _ h => h) rfl (by kernel_rfl) rfl rfl rfl rfl rfl rfl (#[true, true, true, true, true, true, true, true, true, true, true, true, true, true, false, false, false]) (by kernel_rfl) ?_
              refine GA.skip (i := 14) (fun _ _ _ _ _ h => h) rfl (by kernel_rfl) rfl rfl rfl rfl rfl rfl (#[true, true, true, true, true, true, true, true, true, true, true, true, true, true, true, false, false]) (by kernel_rfl) ?_
              first | refine GA.pure (i := 15) (fun _ _ _ _ _ h => h) rfl (by kernel_rfl) ⟨_, rfl, rfl, rfl⟩ rfl rfl (Y.pickT rfl rfl rfl) (#[true, true, true, true, true, true, true, true, true, true, true, true, true, true, true, true, false]) (by kernel_rfl) ?_ | refine GA.pure (i := 15) (fun _ _ _ _ _ h => h) rfl (by kernel_rfl) ⟨_, rfl, rfl, rfl⟩ rfl rfl (Y.pickF rfl rfl rfl) (#[true, true, true, true, true, true, true, true, true, true, true, true, true, true, true, true, false]) (by kernel_rfl) ?_
              first | refine GA.pure (i := 16) (fun _ _ _ _ _ h => h) rfl (by kernel_rfl) trivial rfl rfl (Y.pickT rfl rfl rfl) (#[true, true, true, true, true, true, true, true, true, true, true, true, true, true, true, true, true]) (by kernel_rfl) ?_ | refine GA.pure (i := 16) (fun _ _ _ _ _ h => h) rfl (by kernel_rfl) trivial rfl rfl (Y.pickF rfl rfl rfl) (#[true, true, true, true, true, true, true, true, true, true, true, true, true, true, true, true, true]) (by kernel_rfl) ?_
              refine GA.done (by kernel_rfl) ?_
              refine C.condT rfl ?_
              refine C.region ?_
              refine G.moveS rfl trivial rfl rfl rfl ?_
              refine G.moveI rfl trivial rfl rfl rfl ?_
              refine G.moveI rfl trivial rfl rfl rfl ?_
              refine G.indexAddrArr rfl trivial rfl rfl Try.underlying26 I22 rfl rfl (by omega) ?_
              refine G.loadAt (v := .slice (some ⟨en.1, 0, none⟩) en.2.2.2.length en.2.1) (.next (.next (.next .here))) rfl trivial rfl rfl Try.underlying22 rfl rfl hsl ?_
              refine G.buildL (cs := imC ((k : Int), en)) rfl trivial rfl rfl Try.underlying40 I40 B40 rfl rfl ?_
              refine G.buildSliceL (cs := imC ((k : Int), en)) (zs := [(.int .i64 0), (.slice none 0 0)]) rfl trivial rfl rfl Try.underlying38 I40 rfl (by kernel_rfl) rfl rfl ?_
              intro b201
              refine G.less (L' := so :: [(b201, .row (imC ((k : Int), en)) 40 2)] :: s :: nowSeg b11 ns :: []) (fun _ h => mem_app h) ?_
              refine G.append hon rfl trivial rfl rfl Try.underlying38 Try.underlying38 I40 rfl (by decide) rfl rfl (by decide) (Rd.row0 (.next .here)) rfl (imC_ok _) (by omega) ?_
              intro v202 s202 hv202
              obtain ⟨a202, c202, rfl, _⟩ := hv202.form
              refine G.assignS rfl trivial rfl rfl rfl ?_
              refine G.less (L' := s202 :: s :: nowSeg b11 ns :: []) (fun _ h => h.skip1) ?_
              refine G.nil ?_
              refine C.region ?_
              refine G.moveI rfl trivial rfl rfl rfl ?_
              refine G.addN (j := 1) rfl trivial rfl rfl rfl rfl (by omega) ?_
              refine G.assignI rfl trivial rfl rfl rfl ?_
              refine G.nil ?_
              have hch := chg_some (R := bookR ps bd) (no := (k : Int)) hnv.symm (.inl hg185)
              have e1 : (ims ++ [((k : Int), en)]).length = ims.length + 1 := by simp
              exact ⟨96 - (k + 1) + 0, by omega, k + 1, ims ++ [((k : Int), en)], a202, c202, s202, rfl, by omega, by omega, by rw [List.map_append, him, chK_succ, hch]; rfl, fun e he => (by rcases List.mem_append.1 he with he | he; exact hmem e he; rw [List.mem_singleton.1 he]; exact hmem2), by rw [e1, List.flatMap_append]; simpa using hv202, rfl, rfl, rfl, by rw [e1]; rfl, rfl, rfl, rfl⟩
            · intro hg185
              refine GA.pure (i := 8) (fun _ _ _ _ _ h => h) rfl (by kernel_rfl) ⟨_, rfl, rfl, rfl⟩ rfl rfl (Y.moveI rfl rfl) (#[true, true, true, true, true, true, true, true, true, false, false, false, false, false, false, false, false]) (by kernel_rfl) ?_
              refine GA.pure (i := 9) (fun _ _ _ _ _ h => h) rfl (by kernel_rfl) ⟨_, rfl, rfl, rfl⟩ rfl rfl (Y.indexAddrArr rfl Try.underlying26 I22 rfl rfl (by omega)) (#[true, true, true, true, true, true, true, true, true, true, false, false, false, false, false, false, false]) (by kernel_rfl) ?_
              refine GA.read (i := 10) (fun _ _ _ _ _ h => h) rfl (by kernel_rfl) (by kernel_rfl) ⟨_, rfl, rfl, rfl⟩ rfl rfl (Y.loadAt (v := .slice (some ⟨en.1, 0, none⟩) en.2.2.2.length en.2.1) (.next (.next (.next .here))) rfl Try.underlying22 rfl rfl hsl) (#[true, true, true, true, true, true, true, true, true, true, true, false, false, false, false, false, false]) (by kernel_rfl) ?_
              refine GA.read (i := 11) (fun _ _ _ _ _ h => h) rfl (by kernel_rfl) (by kernel_rfl) ⟨_, rfl, rfl, rfl⟩ rfl rfl (Y.bytesStr en.2.2.2 rfl Try.underlying22 Try.underlying5 Try.underlying9 rfl rfl ((now_rd hmem2 _).cons.cons.cons)) (#[true, true, true, true, true, true, true, true, true, true, true, true, false, false, false, false, false]) (by kernel_rfl) ?_
              refine GA.pure (i := 12) (fun _ _ _ _ _ h => h) rfl (by kernel_rfl) ⟨_, rfl, rfl, rfl⟩ rfl rfl (Y.moveS rfl rfl) (#[true, true, true, true, true, true, true, true, true, true, true, true, true, false, false, false, false]) (by kernel_rfl) ?_
              refine GA.read (i := 13) (fun _ _ _ _ _ h => h) rfl (by kernel_rfl) (by kernel_rfl) ⟨_, rfl, rfl, rfl⟩ rfl rfl (Y.bytesStr (ansB (bookR ps bd (k : Int))) rfl Try.underlying22 Try.underlying5 Try.underlying9 rfl rfl (hr2 _ _)) (#[true, true, true, true, true, true, true, true, true, true, true, true, true, true, false, false, false]) (by kernel_rfl) ?_
              refine GA.pure (i := 14) (fun _ _ _ _ _ h => h) rfl (by kernel_rfl) ⟨_, rfl, rfl, rfl⟩ rfl rfl (Y.strNe rfl  rfl rfl) (#[true, true, true, true, true, true, true, true, true, true, true, true, true, true, true, false, false]) (by kernel_rfl) ?_
              first | refine GA.pure (i := 15) (fun _ _ _ _ _ h => h) rfl (by kernel_rfl) ⟨_, rfl, rfl, rfl⟩ rfl rfl (Y.pickT rfl rfl rfl) (#[true, true, true, true, true, true, true, true, true, true, true, true, true, true, true, true, false]) (by kernel_rfl) ?_ | refine GA.pure (i := 15) (fun _ _ _ _ _ h => h) rfl (by kernel_rfl) ⟨_, rfl, rfl, rfl⟩ rfl rfl (Y.pickF rfl rfl rfl) (#[true, true, true, true, true, true, true, true, true, true, true, true, true, true, true, true, false]) (by kernel_rfl) ?_
              first | refine GA.pure (i := 16) (fun _ _ _ _ _ h => h) rfl (by kernel_rfl) trivial rfl rfl (Y.pickT rfl rfl rfl) (#[true, true, true, true, true, true, true, true, true, true, true, true, true, true, true, true, true]) (by kernel_rfl) ?_ | refine GA.pure (i := 16) (fun _ _ _ _ _ h => h) rfl (by kernel_rfl) trivial rfl rfl (Y.pickF rfl rfl rfl) (#[true, true, true, true, true, true, true, true, true, true, true, true, true, true, true, true, true]) (by kernel_rfl) ?_
              refine GA.done (by kernel_rfl) ?_
              refine C.cond _ rfl ?_ ?_
              · intro hc13
                refine C.region ?_
                refine G.moveS rfl trivial rfl rfl rfl ?_
                refine G.moveI rfl trivial rfl rfl rfl ?_
                refine G.moveI rfl trivial rfl rfl rfl ?_
                refine G.indexAddrArr rfl trivial rfl rfl Try.underlying26 I22 rfl rfl (by omega) ?_
                refine G.loadAt (v := .slice (some ⟨en.1, 0, none⟩) en.2.2.2.length en.2.1) (.next (.next (.next .here))) rfl trivial rfl rfl Try.underlying22 rfl rfl hsl ?_
                refine G.buildL (cs := imC ((k : Int), en)) rfl trivial rfl rfl Try.underlying40 I40 B40 rfl rfl ?_
                refine G.buildSliceL (cs := imC ((k : Int), en)) (zs := [(.int .i64 0), (.slice none 0 0)]) rfl trivial rfl rfl Try.underlying38 I40 rfl (by kernel_rfl) rfl rfl ?_
                intro b201
                refine G.less (L' := so :: [(b201, .row (imC ((k : Int), en)) 40 2)] :: s :: nowSeg b11 ns :: []) (fun _ h => mem_app h) ?_
                refine G.append hon rfl trivial rfl rfl Try.underlying38 Try.underlying38 I40 rfl (by decide) rfl rfl (by decide) (Rd.row0 (.next .here)) rfl (imC_ok _) (by omega) ?_
                intro v202 s202 hv202
                obtain ⟨a202, c202, rfl, _⟩ := hv202.form
                refine G.assignS rfl trivial rfl rfl rfl ?_
                refine G.less (L' := s202 :: s :: nowSeg b11 ns :: []) (fun _ h => h.skip1) ?_
                refine G.nil ?_
                refine C.region ?_
                refine G.moveI rfl trivial rfl rfl rfl ?_
                refine G.addN (j := 1) rfl trivial rfl rfl rfl rfl (by omega) ?_
                refine G.assignI rfl trivial rfl rfl rfl ?_
                refine G.nil ?_
                have hch := chg_some (R := bookR ps bd) (no := (k : Int)) hnv.symm (.inr fun h => hc13 (by rw [h]))
                have e1 : (ims ++ [((k : Int), en)]).length = ims.length + 1 := by simp
                exact ⟨96 - (k + 1) + 0, by omega, k + 1, ims ++ [((k : Int), en)], a202, c202, s202, rfl, by omega, by omega, by rw [List.map_append, him, chK_succ, hch]; rfl, fun e he => (by rcases List.mem_append.1 he with he | he; exact hmem e he; rw [List.mem_singleton.1 he]; exact hmem2), by rw [e1, List.flatMap_append]; simpa using hv202, rfl, rfl, rfl, by rw [e1]; rfl, rfl, rfl, rfl⟩
              · intro hc13
                refine C.skip ?_
                refine C.region ?_
                refine G.less (L' := so :: s :: nowSeg b11 ns :: []) (fun _ h => h.tail.perm2) ?_
                refine G.moveI rfl trivial rfl rfl rfl ?_
                refine G.addN (j := 1) rfl trivial rfl rfl rfl rfl (by omega) ?_
                refine G.assignI rfl trivial rfl rfl rfl ?_
                refine G.nil ?_
                have hch := chg_no (R := bookR ps bd) (no := (k : Int)) hnv.symm (hse _) (Classical.not_not.1 hg185) (strB_inj.1 (Classical.not_not.1 hc13)).symm
                exact ⟨96 - (k + 1) + 0, by omega, k + 1, ims, ao, co, so, rfl, by omega, by omega, by rw [him, chK_succ, hch]; simp, hmem, hon, rfl, rfl, rfl, rfl, rfl, rfl, rfl⟩
          ·
            have hen : ns[k]! = none := by
              cases hq : ns[k]! with
              | none => rfl
              | some e => exact absurd ⟨e, hq⟩ hsome
            rw [hen] at hsl hnv
            refine GA.pure (i := 0) (fun _ _ _ _ _ h => h) rfl (by kernel_rfl) trivial rfl rfl (Y.moveI rfl rfl) (#[true, false, false, false, false, false, false, false, false, false, false, false, false, false, false, false, false]) (by kernel_rfl) ?_
            refine GA.pure (i := 1) (fun _ _ _ _ _ h => h) rfl (by kernel_rfl) trivial rfl rfl (Y.indexAddrArr rfl Try.underlying26 I22 rfl rfl (by omega)) (#[true, true, false, false, false, false, false, false, false, false, false, false, false, false, false, false, false]) (by kernel_rfl) ?_
            refine GA.read (i := 2) (fun _ _ _ _ _ h => h) rfl (by kernel_rfl) (by kernel_rfl) trivial rfl rfl (Y.loadAt (v := nilS) (.next (.next (.next .here))) rfl Try.underlying22 rfl rfl hsl) (#[true, true, true, false, false, false, false, false, false, false, false, false, false, false, false, false, false]) (by kernel_rfl) ?_
            refine GA.pure (i := 3) (fun _ _ _ _ _ h => h) rfl (by kernel_rfl) trivial rfl rfl (Y.slNe rfl Try.underlying22 rfl rfl) (#[true, true, true, true, false, false, false, false, false, false, false, false, false, false, false, false, false]) (by kernel_rfl) ?_
            refine GA.fix (d := 181) (v := .bool false) rfl ?_
            refine GA.pure (i := 4) (fun _ _ _ _ _ h => h) rfl (by kernel_rfl) trivial rfl rfl (Y.moveB rfl rfl) (#[true, true, true, true, true, false, false, false, false, false, false, false, false, false, false, false, false]) (by kernel_rfl) ?_
            refine GA.skip (i := 5) (fun _ _ _ _ _ h => h) rfl (by kernel_rfl) rfl rfl rfl rfl rfl rfl (#[true, true, true, true, true, true, false, false, false, false, false, false, false, false, false, false, false]) (by kernel_rfl) ?_
            refine GA.skip (i := 6) (fun _ _ _ _ _ h => h) rfl (by kernel_rfl) rfl rfl rfl rfl rfl rfl (#[true, true, true, true, true, true, true, false, false, false, false, false, false, false, false, false, false]) (by kernel_rfl) ?_
            refine GA.skip (i := 7) (fun _ _ _ _ _ h => h) rfl (by kernel_rfl) rfl rfl rfl rfl rfl rfl (#[true, true, true, true, true, true, true, true, false, false, false, false, false, false, false, false, false]) (by kernel_rfl) ?_
            refine GA.skipU (i := 8) (fun _ _ _ _ _ h => h) rfl (by kernel_rfl) rfl rfl rfl rfl rfl rfl (#[true, true, true, true, true, true, true, true, true, false, false, false, false, false, false, false, false]) (by kernel_rfl) ?_
            refine GA.skipU (i := 9) (fun _ _ _ _ _ h => h) rfl (by kernel_rfl) rfl rfl rfl rfl rfl rfl (#[true, true, true, true, true, true, true, true, true, true, false, false, false, false, false, false, false]) (by kernel_rfl) ?_
            refine GA.skipU (i := 10) (fun _ _ _ _ _ h => h) rfl (by kernel_rfl) rfl rfl rfl rfl rfl rfl (#[true, true, true, true, true, true, true, true, true, true, true, false, false, false, false, false, false]) (by kernel_rfl) ?_
            refine GA.skipU (i := 11) (fun _ _ _ _ _ h => h) rfl (by kernel_rfl) rfl rfl rfl rfl rfl rfl (#[true, true, true, true, true, true, true, true, true, true, true, true, false, false, false, false, false]) (by kernel_rfl) ?_
            refine GA.skipU (i := 12) (fun _ _ _ _ _ h => h) rfl (by kernel_rfl) rfl rfl rfl rfl rfl rfl (#[true, true, true, true, true, true, true, true, true, true, true, true, true, false, false, false, false]) (by kernel_rfl) ?_
            refine GA.skipU (i := 13) (fun _ _ _ _ _ h => h) rfl (by kernel_rfl) rfl rfl rfl rfl rfl rfl (#[true, true, true, true, true, true, true, true, true, true, true, true, true, true, false, false, false]) (by kernel_rfl) ?_
            refine GA.skipU (i := 14) (fun _ _ _ _ _ h => h) rfl (by kernel_rfl) rfl rfl rfl rfl rfl rfl (#[true, true, true, true, true, true, true, true, true, true, true, true, true, true, true, false, false]) (by kernel_rfl) ?_
            refine GA.skip (i := 15) (fun _ _ _ _ _ h => h) rfl (by kernel_rfl) rfl rfl rfl rfl rfl rfl (#[true, true, true, true, true, true, true, true, true, true, true, true, true, true, true, true, false]) (by kernel_rfl) ?_
            first | refine GA.pure (i := 16) (fun _ _ _ _ _ h => h) rfl (by kernel_rfl) trivial rfl rfl (Y.pickT rfl rfl rfl) (#[true, true, true, true, true, true, true, true, true, true, true, true, true, true, true, true, true]) (by kernel_rfl) ?_ | refine GA.pure (i := 16) (fun _ _ _ _ _ h => h) rfl (by kernel_rfl) trivial rfl rfl (Y.pickF rfl rfl rfl) (#[true, true, true, true, true, true, true, true, true, true, true, true, true, true, true, true, true]) (by kernel_rfl) ?_
            refine GA.done (by kernel_rfl) ?_
            refine C.condF rfl ?_
            refine C.skip ?_
            refine C.region ?_
            refine G.less (L' := so :: s :: nowSeg b11 ns :: []) (fun _ h => h.tail.perm2) ?_
            refine G.moveI rfl trivial rfl rfl rfl ?_
            refine G.addN (j := 1) rfl trivial rfl rfl rfl rfl (by omega) ?_
            refine G.assignI rfl trivial rfl rfl rfl ?_
            refine G.nil ?_
            have hch := chg1_none (R := bookR ps bd) (no := (k : Int)) hnv.symm
            exact ⟨96 - (k + 1) + 0, by omega, k + 1, ims, ao, co, so, rfl, by omega, by omega, by rw [him, chK_succ, hch]; simp, hmem, hon, rfl, rfl, rfl, rfl, rfl, rfl, rfl⟩
        · intro hc12
          obtain rfl : k = 96 := by omega
          obtain ⟨a9, c9, h9, hron⟩ := hon.form
          cases h9
          refine C.exit ?_
          refine C.seq ?_
          refine C.region ?_
          refine G.moveP rfl trivial rfl rfl rfl ?_
          refine G.call E16 rfl rfl trivial rfl rfl (FnS.perm (schanges_spec W0 bs _ hsh) P2) rfl ?_
          rintro e L2 ⟨ac, cc, s3, s4, hi204, rfl, rfl⟩
          obtain ⟨ims1, hm1, hcp1, hon1, rfl⟩ := hi204
          obtain ⟨az, cz, haz, hrd1⟩ := hon1.form
          simp only [Value.slice.injEq] at haz
          obtain ⟨rfl, hln, rfl⟩ := haz
          refine G.moveS rfl trivial rfl rfl rfl ?_
          refine G.call E15 rfl rfl trivial rfl rfl (eqIms_spec W0 _ ac ao cc co _ _ ims1 ims hln.symm rfl (hrd1 W0 _) ((hron W0 _).cons.cons.cons) (fun e he => (ims_rd he).cons) (fun e he => (now_rd (hmem e he) _).cons.cons.cons.cons) (by have h := congrArg List.length (hm1.trans him.symm); simp at h; omega) (hm1.trans him.symm)) rfl ?_
          rintro e L2 ⟨rfl, rfl⟩
          refine G.assignB rfl trivial rfl rfl rfl ?_
          refine G.nil ?_
          refine C.ret ?_
          -- end g45Fg69Fc12F
          exact ⟨rfl, _, Res.of (rs := [.tmp 6]) rfl rfl, rfl⟩
end laws
end Sht
end Go.Proofs.Ytgfdghhojnmaoaa
