/-
  Sheets: SheetTwo walked.
-/
import Derived.Test.YtgfdghhojnmaoaaSh12
namespace Go.Proofs.Ytgfdghhojnmaoaa
namespace Sht
open Go Go.SL Go.RowKit

theorem tset_val (W0 : World) (bs : Nat) (pv : Value) (L : List Seg) (mg : Int → Option (List UInt8)) (hd : Seg) (h : TopIs bs pv mg hd) (no : Int) (a : Option Addr) (c : Nat) (xs : List UInt8) (n : Nat) (hn : xs.length = n) (hr : Rd W0 L a (bytesV xs)) :
    FnS Try.prog W0 12 #[ptr bs, .int .i64 no, .slice a n c] (hd :: L) (fun e L' => ∃ mg' hd', TopIs bs pv mg' hd' ∧ L' = hd' :: L ∧ ∃ r, e = .returned (.int .i64 r)) := by
  subst hn
  exact (tset_spec W0 bs pv L mg hd h no a c xs hr).drop fun e L' ⟨hd', h1, h2, h3⟩ => ⟨L', fun w hw => hw, _, hd', h1, h2, _, h3⟩
theorem tset_ok (W0 : World) (bs : Nat) (pv : Value) (L : List Seg) (mg : Int → Option (List UInt8)) (hd : Seg) (h : TopIs bs pv mg hd) (no : Int) (hno : 0 ≤ no ∧ no ≤ 95) (a : Option Addr) (c : Nat) (xs : List UInt8) (hn : xs.length = 256) (hr : Rd W0 L a (bytesV xs)) :
    FnS Try.prog W0 12 #[ptr bs, .int .i64 no, .slice a xs.length c] (hd :: L) (fun e L' => ∃ hd', TopIs bs pv (setM mg no xs) hd' ∧ L' = hd' :: L ∧ e = .returned (.int .i64 0)) := by
  have h1 := tset_spec W0 bs pv L mg hd h no a c xs hr
  have h2 : setC no xs.length = 0 := by unfold setC; rw [if_neg (by omega), if_neg (by omega)]
  rw [h2, if_pos rfl] at h1
  exact h1
theorem ims_rg {mg : Int → Option (List UInt8)} {R : Ans} {ims : List Im} (hsz : ∀ k b, mg k = some b → b.length = 256) (h : ims.map imP = chL mg R) : ∀ e ∈ ims, (0 ≤ e.1 ∧ e.1 ≤ 95) ∧ e.2.2.2.2.length = 256 := by
  intro e he
  have h1 : imP e ∈ chK mg R 96 := by rw [show chK mg R 96 = chL mg R from rfl, ← h]; exact List.mem_map_of_mem he
  obtain ⟨h2, h3, h4⟩ := chK_mem h1
  exact ⟨⟨h2, by have : e.1 < 96 := h3; omega⟩, hsz _ _ h4⟩
theorem chL_le (mg : Int → Option (List UInt8)) (R : Ans) : (chL mg R).length ≤ 96 := by
  refine Nat.le_trans (List.length_filterMap_le _ _) ?_
  rw [List.length_range]
  exact Nat.le_refl _
theorem TopIs.size {bt : Nat} {pv : Value} {mg : Int → Option (List UInt8)} {hd : Seg} (h : TopIs bt pv mg hd) : ∀ k b, mg k = some b → b.length = 256 := by
  obtain ⟨_, _, _, hm, _⟩ := h
  exact hm.size
section perms
variable {x y z t s b : Seg} {L : List Seg}
theorem TA : (t :: s :: b :: L).flatten.Perm ((t ++ (s ++ b)) :: L).flatten := by simp
theorem PX : (x :: y :: z :: t :: L).flatten.Perm (t :: x :: y :: z :: L).flatten := (List.perm_middle (l₁ := [x, y, z]) (a := t) (l₂ := L)).flatten
theorem PY : (x :: y :: t :: s :: b :: L).flatten.Perm ((t ++ (s ++ b)) :: x :: y :: L).flatten := (List.perm_append_comm_assoc [x, y] [t, s, b] L).flatten.trans TA
theorem PZ : (x :: y :: t :: s :: b :: L).flatten.Perm ((s ++ b) :: x :: y :: t :: L).flatten := (List.perm_append_comm_assoc [x, y, t] [s, b] L).flatten.trans (by simp)
theorem PW : (x :: (t ++ (s ++ b)) :: L).flatten.Perm ((s ++ b) :: x :: t :: L).flatten := (show (x :: (t ++ (s ++ b)) :: L).flatten.Perm (x :: t :: (s ++ b) :: L).flatten by simp).trans P3
theorem mem_lay {W0 w : World} (h : Mem W0 w (x :: y :: (s ++ b) :: L)) : Mem W0 w (b :: x :: y :: s :: L) :=
  (h.of_flat (L' := x :: y :: s :: b :: L) (by simp)).of_flat PX
theorem mem_laid {W0 w : World} {i : Seg} (h : Mem W0 w (b :: x :: y :: s :: z :: i :: t :: L)) : Mem W0 w (z :: i :: t :: s :: b :: L) := by
  have h1 : Mem W0 w (b :: s :: z :: i :: t :: L) := (h.of_flat (List.perm_append_comm_assoc [b] [x, y] (s :: z :: i :: t :: L)).flatten).tail.tail
  exact (h1.perm2).of_flat (List.perm_append_comm_assoc [s, b] [z, i, t] L).flatten
theorem mem_round {W0 w : World} {i so2 so1 : Seg} (h : Mem W0 w (so2 :: (s ++ b) :: so1 :: t :: z :: i :: L)) : Mem W0 w (z :: i :: t :: s :: b :: L) := by
  have h1 : Mem W0 w (s :: b :: t :: z :: i :: L) := (h.tail.skip1).of_flat (by simp)
  exact (h1.of_flat (List.perm_append_comm_assoc [s, b] [t, z, i] L).flatten).of_flat (List.perm_append_comm_assoc [t] [z, i] (s :: b :: L)).flatten
end perms
section laws
variable (W0 : World)
theorem two_walk (a : Option Addr) (len cap : Nat) (ops : List SOp) (h : SOps W0 a len cap ops) (a1 : Option Addr) (len1 cap1 : Nat) (ops1 : List SOp) (g : SOps W0 a1 len1 cap1 ops1) :
    FnS Try.prog W0 7 #[.slice a len cap, .slice a1 len1 cap1] [] (fun e _ => e = .returned (.bool true)) := by
  obtain ⟨rfl, hlc, hcap, hr, hwf⟩ := h
  obtain ⟨rfl, hlc1, hcap1, hr1, hwf1⟩ := g
  have hmax : maxLen ≤ 9223372036854775807 := by decide
  refine FnS.of (args := [.slice a ops.length cap, .slice a1 ops1.length cap1]) Try.func7 rfl rfl ?_
  refine C.seq ?_
  refine C.region ?_
  refine G.assignB rfl trivial rfl rfl rfl ?_
  refine G.nil ?_
  refine C.seq ?_
  refine C.region ?_
  refine G.call E9 rfl rfl trivial rfl rfl (sbegun_spec W0 _) rfl ?_
  rintro e L2 ⟨rfl, rfl⟩
  refine G.assignB rfl trivial rfl rfl rfl ?_
  refine G.nil ?_
  refine C.seq ?_
  refine C.seq ?_
  refine C.region ?_
  refine G.moveB rfl trivial rfl rfl rfl ?_
  first | refine G.notD rfl trivial rfl rfl rfl ?_ | refine G.not rfl trivial rfl rfl rfl ?_
  refine G.nil ?_
  refine C.condF rfl ?_
  refine C.skip ?_
  refine C.seq ?_
  refine C.region ?_
  refine G.buildL (cs := List.replicate 96 nilS ++ [.int .i64 0]) rfl trivial rfl rfl Try.underlying28 I28 B28 rfl rfl ?_
  refine G.boxG rfl trivial rfl rfl rfl ?_
  intro b22
  refine G.assignP rfl trivial rfl rfl rfl ?_
  have hbk0 : BookIs b22 noPages 0 (bookSeg b22 noPages 0) := ⟨noPages_length, (book_new b22 0).2.1, rfl⟩
  refine G.less (L' := bookSeg b22 noPages 0 :: []) (fun _ h => by unfold bookSeg; rw [noPages_slots, noPages_pool]; exact h) ?_
  refine G.nil ?_
  refine C.seq ?_
  refine C.region ?_
  refine G.moveP rfl trivial rfl rfl rfl ?_
  refine G.makeInterface rfl trivial rfl rfl Try.underlying25 rfl ?_
  refine G.call E11 rfl rfl trivial rfl rfl (tnew_spec W0 _ 25 b22) rfl ?_
  rintro e L2 ⟨bs, hS, hTs, rfl, rfl⟩
  refine G.assignP rfl trivial rfl rfl rfl ?_
  refine G.nil ?_
  refine C.seq ?_
  refine C.seq ?_
  refine C.region ?_
  refine G.assignI rfl trivial rfl rfl rfl ?_
  refine G.nil ?_
  refine C.block ?_
  refine C.loop (fun m F D' L' => ∃ (i : Nat) (mS : Int → Option (List UInt8)) (hS : Seg), m = ops.length - i + 0 ∧ i ≤ ops.length ∧ i ≤ 20 ∧ TopIs bs (.iface 25 (ptr b22)) mS hS ∧ F 0 = .slice a ops.length cap ∧ F 1 = .slice a1 ops1.length cap1 ∧ F 6 = ptr b22 ∧ F 7 = ptr bs ∧ F 8 = .int .i64 (i : Int) ∧ D' = [] ∧ hS :: bookSeg b22 noPages 0 :: [] = L') ⟨_, ⟨0, _, hS, rfl, Nat.zero_le _, Nat.zero_le _, hTs, rfl, rfl, rfl, rfl, rfl, rfl, rfl⟩⟩ ?_
  rintro m F D' L' ⟨i, mS, hS, rfl, hi, hi20, hTs, h0, h1', h6, h7, h8, rfl, rfl⟩
  refine C.fix (d := 0) h0 ?_
  refine C.fix (d := 1) h1' ?_
  refine C.fix (d := 6) h6 ?_
  refine C.fix (d := 7) h7 ?_
  refine C.fix (d := 8) h8 ?_
  refine C.seq ?_
  refine C.seq ?_
  refine C.region ?_
  refine G.moveI rfl trivial rfl rfl rfl ?_
  refine G.moveS rfl trivial rfl rfl rfl ?_
  refine G.lenSlice rfl trivial rfl rfl Try.underlying23 rfl ?_
  refine G.bin rfl trivial rfl rfl rfl rfl rfl ?_
  refine G.moveB rfl trivial rfl rfl rfl ?_
  refine G.fork (t := 30) _ rfl ?_ ?_
  · intro hg30
    refine G.moveI rfl ⟨_, rfl, rfl, rfl⟩ rfl rfl rfl ?_
    refine G.bin rfl ⟨_, rfl, rfl, rfl⟩ rfl rfl rfl rfl rfl ?_
    first | refine G.pickT rfl trivial rfl rfl rfl rfl ?_ | refine G.pickF rfl trivial rfl rfl rfl rfl ?_
    refine G.nil ?_
    refine C.cond _ rfl ?_ ?_
    · intro hc1
      have hlt : i < ops.length := by have h := hg30; omega
      obtain ⟨p, o, rfl, _⟩ := (hr []).some_ (by rw [chunk_length (k := 3) (fun _ _ => rfl)]; omega)
      obtain ⟨hoc, hom, hno, hor⟩ := hwf _ (List.getElem_mem hlt)
      have hce := fun L w hm => cellS (L := L) hr hlt w hm
      generalize ops[i] = op at hoc hom hno hor hce
      obtain ⟨kd, no, oa, oc, l⟩ := op
      simp only at hoc hom hno hor
      refine C.skip ?_
      refine C.seq ?_
      refine C.block ?_
      refine C.drawn mixed ([]) [] (fun _ h => memNone h) ?_
      refine GA.pure (i := 0) (fun _ _ _ _ _ h => h) rfl (by kernel_rfl) trivial rfl rfl (Y.moveP rfl rfl) (#[true, false, false, false, false, false, false, false, false, false, false, false, false, false]) (by kernel_rfl) ?_
      refine GA.pure (i := 1) (fun _ _ _ _ _ h => h) rfl (by kernel_rfl) trivial rfl rfl (Y.moveS rfl rfl) (#[true, true, false, false, false, false, false, false, false, false, false, false, false, false]) (by kernel_rfl) ?_
      refine GA.pure (i := 2) (fun _ _ _ _ _ h => h) rfl (by kernel_rfl) trivial rfl rfl (Y.moveI rfl rfl) (#[true, true, true, false, false, false, false, false, false, false, false, false, false, false]) (by kernel_rfl) ?_
      refine GA.pure (i := 3) (fun _ _ _ _ _ h => h) rfl (by kernel_rfl) trivial rfl rfl (Y.indexAddr rfl Try.underlying23 I33 rfl rfl (by omega)) (#[true, true, true, true, false, false, false, false, false, false, false, false, false, false]) (by kernel_rfl) ?_
      refine GA.pure (i := 4) (fun _ _ _ _ _ h => h) rfl (by kernel_rfl) trivial rfl rfl (Y.fieldAddr rfl Try.underlying33 rfl I3 rfl rfl) (#[true, true, true, true, true, false, false, false, false, false, false, false, false, false]) (by kernel_rfl) ?_
      refine GA.read (i := 5) (fun _ _ _ _ _ h => h) rfl (by kernel_rfl) (by kernel_rfl) trivial rfl rfl (Y.load rfl Try.underlying3 rfl rfl (fun w hm => hce _ w hm 1 _ rfl)) (#[true, true, true, true, true, true, false, false, false, false, false, false, false, false]) (by kernel_rfl) ?_
      refine GA.fix (d := 41) (v := .int .i64 no) rfl ?_
      refine GA.pure (i := 6) (fun _ _ _ _ _ h => h) rfl (by kernel_rfl) trivial rfl rfl (Y.moveS rfl rfl) (#[true, true, true, true, true, true, true, false, false, false, false, false, false, false]) (by kernel_rfl) ?_
      refine GA.pure (i := 7) (fun _ _ _ _ _ h => h) rfl (by kernel_rfl) trivial rfl rfl (Y.moveI rfl rfl) (#[true, true, true, true, true, true, true, true, false, false, false, false, false, false]) (by kernel_rfl) ?_
      refine GA.pure (i := 8) (fun _ _ _ _ _ h => h) rfl (by kernel_rfl) trivial rfl rfl (Y.indexAddr rfl Try.underlying23 I33 rfl rfl (by omega)) (#[true, true, true, true, true, true, true, true, true, false, false, false, false, false]) (by kernel_rfl) ?_
      refine GA.pure (i := 9) (fun _ _ _ _ _ h => h) rfl (by kernel_rfl) trivial rfl rfl (Y.fieldAddr rfl Try.underlying33 rfl I22 rfl rfl) (#[true, true, true, true, true, true, true, true, true, true, false, false, false, false]) (by kernel_rfl) ?_
      refine GA.read (i := 10) (fun _ _ _ _ _ h => h) rfl (by kernel_rfl) (by kernel_rfl) trivial rfl rfl (Y.load rfl Try.underlying22 rfl rfl (fun w hm => hce _ w hm 2 _ rfl)) (#[true, true, true, true, true, true, true, true, true, true, true, false, false, false]) (by kernel_rfl) ?_
      refine GA.fix (d := 46) (v := .slice oa l.length oc) rfl ?_
      refine GA.one (i := 11) rfl (by kernel_rfl) (#[true, true, true, true, true, true, true, true, true, true, true, true, false, false]) (by kernel_rfl) ?_
      refine G.call E18 rfl rfl trivial rfl rfl (short_spec W0 _ oa oc l hoc hom) rfl ?_
      rintro e L2 ⟨rfl, rfl⟩
      refine G.nil ?_
      refine ⟨fun _ _ h => memNone h, ?_⟩
      refine GA.one (i := 12) rfl (by kernel_rfl) (#[true, true, true, true, true, true, true, true, true, true, true, true, true, false]) (by kernel_rfl) ?_
      refine G.call E10 rfl rfl trivial rfl rfl (of_spec W0 _ oa oc (l.take 256) (fun s => by rw [← bytesV_take]; exact (hor _).take)) rfl ?_
      rintro e L2 ⟨bp, rfl, rfl⟩
      refine G.nil ?_
      refine ⟨fun _ _ h => memNone h, ?_⟩
      refine GA.one (i := 13) rfl (by kernel_rfl) (#[true, true, true, true, true, true, true, true, true, true, true, true, true, true]) (by kernel_rfl) ?_
      refine G.call E12 rfl rfl trivial rfl rfl (FnS.perm (tset_val W0 bs _ _ mS hS hTs no (some ⟨bp, 0, none⟩) 256 (ofB (l.take 256)) 256 (ofB_length _) (Rd.row0 .here)) P2) rfl ?_
      rintro e L2 ⟨mS2, hS2, hTs2, rfl, r49, rfl⟩
      refine G.less (L' := hS2 :: bookSeg b22 noPages 0 :: []) (fun _ h => h.skip1) ?_
      refine G.nil ?_
      refine ⟨fun _ _ h => memNone h, ?_⟩
      refine GA.done (by kernel_rfl) ?_
      refine C.region ?_
      refine G.moveI rfl trivial rfl rfl rfl ?_
      refine G.addN (j := 1) rfl trivial rfl rfl rfl rfl (by omega) ?_
      refine G.assignI rfl trivial rfl rfl rfl ?_
      refine G.nil ?_
      exact ⟨ops.length - (i + 1) + 0, by omega, i + 1, mS2, hS2, rfl, by omega, by omega, hTs2, rfl, rfl, rfl, rfl, rfl, rfl, rfl⟩
    · intro hc1
      refine C.exit ?_
      refine C.seq ?_
      refine C.region ?_
      refine G.moveP rfl trivial rfl rfl rfl ?_
      refine G.makeInterface rfl trivial rfl rfl Try.underlying30 rfl ?_
      refine G.call E11 rfl rfl trivial rfl rfl (tnew_spec W0 _ 30 bs) rfl ?_
      rintro e L2 ⟨bt, hT, hTt, rfl, rfl⟩
      refine G.assignP rfl trivial rfl rfl rfl ?_
      refine G.nil ?_
      refine C.seq ?_
      refine C.seq ?_
      refine C.region ?_
      refine G.assignI rfl trivial rfl rfl rfl ?_
      refine G.nil ?_
      refine C.block ?_
      refine C.loop (fun m F D' L' => ∃ (i : Nat) (mT : Int → Option (List UInt8)) (hT : Seg), m = ops1.length - i + 0 ∧ i ≤ ops1.length ∧ i ≤ 20 ∧ TopIs bt (.iface 30 (ptr bs)) mT hT ∧ F 1 = .slice a1 ops1.length cap1 ∧ F 6 = ptr b22 ∧ F 7 = ptr bs ∧ F 9 = ptr bt ∧ F 10 = .int .i64 (i : Int) ∧ D' = [] ∧ hT :: hS :: bookSeg b22 noPages 0 :: [] = L') ⟨_, ⟨0, _, hT, rfl, Nat.zero_le _, Nat.zero_le _, hTt, rfl, rfl, rfl, rfl, rfl, rfl, rfl⟩⟩ ?_
      rintro m F D' L' ⟨i, mT, hT, rfl, hi, hi20, hTt, h1', h6, h7, h9, h10, rfl, rfl⟩
      refine C.fix (d := 1) h1' ?_
      refine C.fix (d := 6) h6 ?_
      refine C.fix (d := 7) h7 ?_
      refine C.fix (d := 9) h9 ?_
      refine C.fix (d := 10) h10 ?_
      refine C.seq ?_
      refine C.seq ?_
      refine C.region ?_
      refine G.moveI rfl trivial rfl rfl rfl ?_
      refine G.moveS rfl trivial rfl rfl rfl ?_
      refine G.lenSlice rfl trivial rfl rfl Try.underlying23 rfl ?_
      refine G.bin rfl trivial rfl rfl rfl rfl rfl ?_
      refine G.moveB rfl trivial rfl rfl rfl ?_
      refine G.fork (t := 57) _ rfl ?_ ?_
      · intro hg57
        refine G.moveI rfl ⟨_, rfl, rfl, rfl⟩ rfl rfl rfl ?_
        refine G.bin rfl ⟨_, rfl, rfl, rfl⟩ rfl rfl rfl rfl rfl ?_
        first | refine G.pickT rfl trivial rfl rfl rfl rfl ?_ | refine G.pickF rfl trivial rfl rfl rfl rfl ?_
        refine G.nil ?_
        refine C.cond _ rfl ?_ ?_
        · intro hc2
          have hlt : i < ops1.length := by have h := hg57; omega
          obtain ⟨p, o, rfl, _⟩ := (hr1 []).some_ (by rw [chunk_length (k := 3) (fun _ _ => rfl)]; omega)
          obtain ⟨hoc, hom, hno, hor⟩ := hwf1 _ (List.getElem_mem hlt)
          have hce := fun L w hm => cellS (L := L) hr1 hlt w hm
          generalize ops1[i] = op at hoc hom hno hor hce
          obtain ⟨kd, no, oa, oc, l⟩ := op
          simp only at hoc hom hno hor
          refine C.skip ?_
          refine C.seq ?_
          refine C.block ?_
          refine C.drawn mixed ([]) [] (fun _ h => memNone h) ?_
          refine GA.pure (i := 0) (fun _ _ _ _ _ h => h) rfl (by kernel_rfl) trivial rfl rfl (Y.moveP rfl rfl) (#[true, false, false, false, false, false, false, false, false, false, false, false, false, false]) (by kernel_rfl) ?_
          refine GA.pure (i := 1) (fun _ _ _ _ _ h => h) rfl (by kernel_rfl) trivial rfl rfl (Y.moveS rfl rfl) (#[true, true, false, false, false, false, false, false, false, false, false, false, false, false]) (by kernel_rfl) ?_
          refine GA.pure (i := 2) (fun _ _ _ _ _ h => h) rfl (by kernel_rfl) trivial rfl rfl (Y.moveI rfl rfl) (#[true, true, true, false, false, false, false, false, false, false, false, false, false, false]) (by kernel_rfl) ?_
          refine GA.pure (i := 3) (fun _ _ _ _ _ h => h) rfl (by kernel_rfl) trivial rfl rfl (Y.indexAddr rfl Try.underlying23 I33 rfl rfl (by omega)) (#[true, true, true, true, false, false, false, false, false, false, false, false, false, false]) (by kernel_rfl) ?_
          refine GA.pure (i := 4) (fun _ _ _ _ _ h => h) rfl (by kernel_rfl) trivial rfl rfl (Y.fieldAddr rfl Try.underlying33 rfl I3 rfl rfl) (#[true, true, true, true, true, false, false, false, false, false, false, false, false, false]) (by kernel_rfl) ?_
          refine GA.read (i := 5) (fun _ _ _ _ _ h => h) rfl (by kernel_rfl) (by kernel_rfl) trivial rfl rfl (Y.load rfl Try.underlying3 rfl rfl (fun w hm => hce _ w hm 1 _ rfl)) (#[true, true, true, true, true, true, false, false, false, false, false, false, false, false]) (by kernel_rfl) ?_
          refine GA.fix (d := 68) (v := .int .i64 no) rfl ?_
          refine GA.pure (i := 6) (fun _ _ _ _ _ h => h) rfl (by kernel_rfl) trivial rfl rfl (Y.moveS rfl rfl) (#[true, true, true, true, true, true, true, false, false, false, false, false, false, false]) (by kernel_rfl) ?_
          refine GA.pure (i := 7) (fun _ _ _ _ _ h => h) rfl (by kernel_rfl) trivial rfl rfl (Y.moveI rfl rfl) (#[true, true, true, true, true, true, true, true, false, false, false, false, false, false]) (by kernel_rfl) ?_
          refine GA.pure (i := 8) (fun _ _ _ _ _ h => h) rfl (by kernel_rfl) trivial rfl rfl (Y.indexAddr rfl Try.underlying23 I33 rfl rfl (by omega)) (#[true, true, true, true, true, true, true, true, true, false, false, false, false, false]) (by kernel_rfl) ?_
          refine GA.pure (i := 9) (fun _ _ _ _ _ h => h) rfl (by kernel_rfl) trivial rfl rfl (Y.fieldAddr rfl Try.underlying33 rfl I22 rfl rfl) (#[true, true, true, true, true, true, true, true, true, true, false, false, false, false]) (by kernel_rfl) ?_
          refine GA.read (i := 10) (fun _ _ _ _ _ h => h) rfl (by kernel_rfl) (by kernel_rfl) trivial rfl rfl (Y.load rfl Try.underlying22 rfl rfl (fun w hm => hce _ w hm 2 _ rfl)) (#[true, true, true, true, true, true, true, true, true, true, true, false, false, false]) (by kernel_rfl) ?_
          refine GA.fix (d := 73) (v := .slice oa l.length oc) rfl ?_
          refine GA.one (i := 11) rfl (by kernel_rfl) (#[true, true, true, true, true, true, true, true, true, true, true, true, false, false]) (by kernel_rfl) ?_
          refine G.call E18 rfl rfl trivial rfl rfl (short_spec W0 _ oa oc l hoc hom) rfl ?_
          rintro e L2 ⟨rfl, rfl⟩
          refine G.nil ?_
          refine ⟨fun _ _ h => memNone h, ?_⟩
          refine GA.one (i := 12) rfl (by kernel_rfl) (#[true, true, true, true, true, true, true, true, true, true, true, true, true, false]) (by kernel_rfl) ?_
          refine G.call E10 rfl rfl trivial rfl rfl (of_spec W0 _ oa oc (l.take 256) (fun s => by rw [← bytesV_take]; exact (hor _).take)) rfl ?_
          rintro e L2 ⟨bp, rfl, rfl⟩
          refine G.nil ?_
          refine ⟨fun _ _ h => memNone h, ?_⟩
          refine GA.one (i := 13) rfl (by kernel_rfl) (#[true, true, true, true, true, true, true, true, true, true, true, true, true, true]) (by kernel_rfl) ?_
          refine G.call E12 rfl rfl trivial rfl rfl (FnS.perm (tset_val W0 bt _ _ mT hT hTt no (some ⟨bp, 0, none⟩) 256 (ofB (l.take 256)) 256 (ofB_length _) (Rd.row0 .here)) P2) rfl ?_
          rintro e L2 ⟨mT2, hT2, hTt2, rfl, r76, rfl⟩
          refine G.less (L' := hT2 :: hS :: bookSeg b22 noPages 0 :: []) (fun _ h => h.skip1) ?_
          refine G.nil ?_
          refine ⟨fun _ _ h => memNone h, ?_⟩
          refine GA.done (by kernel_rfl) ?_
          refine C.region ?_
          refine G.moveI rfl trivial rfl rfl rfl ?_
          refine G.addN (j := 1) rfl trivial rfl rfl rfl rfl (by omega) ?_
          refine G.assignI rfl trivial rfl rfl rfl ?_
          refine G.nil ?_
          exact ⟨ops1.length - (i + 1) + 0, by omega, i + 1, mT2, hT2, rfl, by omega, by omega, hTt2, rfl, rfl, rfl, rfl, rfl, rfl, rfl⟩
        · intro hc2
          refine C.exit ?_
          refine C.seq ?_
          refine C.region ?_
          have hSh := top_sh hTs (.some (book_src W0 b22 hbk0))
          have hTh := top_sh hTt (.some (sheet_src W0 bs hSh))
          obtain ⟨Rb, hRb⟩ : ∃ R, R = bookR noPages 0 := ⟨_, rfl⟩
          rw [← hRb] at hSh hTh
          refine G.moveP rfl trivial rfl rfl rfl ?_
          refine G.call E16 rfl rfl trivial rfl rfl (FnS.perm (schanges_spec W0 bt [] hTh) TA) rfl ?_
          rintro e L2 ⟨ac, cc, s3, s4, hi78, rfl, rfl⟩
          obtain ⟨ims, hmi, hcp, hon, rfl⟩ := hi78
          obtain ⟨az, cz, haz, hrd⟩ := hon.form
          simp only [Value.slice.injEq] at haz
          obtain ⟨rfl, hln, rfl⟩ := haz
          rw [hln]
          have hrg := ims_rg hTt.size hmi
          have hle : ims.length ≤ 96 := by rw [← hln]; exact chL_le _ _
          refine G.less (L' := s3 :: ims.map imB :: hT :: hS :: bookSeg b22 noPages 0 :: []) (fun _ h => h.of_flat (by simp)) ?_
          refine G.assignS rfl trivial rfl rfl rfl ?_
          refine G.nil ?_
          refine C.seq ?_
          refine C.seq ?_
          refine C.region ?_
          refine G.assignI rfl trivial rfl rfl rfl ?_
          refine G.nil ?_
          refine C.block ?_
          refine C.loop (fun m F D' L' => ∃ (i : Nat) (hS2 : Seg), m = ims.length - i + 0 ∧ i ≤ ims.length ∧ TopIs bs (.iface 25 (ptr b22)) (updG some mS ((ims.map imP).take i)) hS2 ∧ F 6 = ptr b22 ∧ F 7 = ptr bs ∧ F 9 = ptr bt ∧ F 11 = .slice ac ims.length cc ∧ F 12 = .int .i64 (i : Int) ∧ D' = [] ∧ s3 :: ims.map imB :: hT :: hS2 :: bookSeg b22 noPages 0 :: [] = L') ⟨_, ⟨0, hS, rfl, Nat.zero_le _, hTs, rfl, rfl, rfl, rfl, rfl, rfl, rfl⟩⟩ ?_
          rintro m F D' L' ⟨i, hS2, rfl, hi, hTs2, h6, h7, h9, h11, h12, rfl, rfl⟩
          refine C.fix (d := 6) h6 ?_
          refine C.fix (d := 7) h7 ?_
          refine C.fix (d := 9) h9 ?_
          refine C.fix (d := 11) h11 ?_
          refine C.fix (d := 12) h12 ?_
          refine C.seq ?_
          refine C.seq ?_
          refine C.region ?_
          refine G.moveI rfl trivial rfl rfl rfl ?_
          refine G.moveS rfl trivial rfl rfl rfl ?_
          refine G.lenSlice rfl trivial rfl rfl Try.underlying38 rfl ?_
          refine G.bin rfl trivial rfl rfl rfl rfl rfl ?_
          refine G.nil ?_
          refine C.cond _ rfl ?_ ?_
          · intro hc3
            have hlt : i < ims.length := by omega
            obtain ⟨p, o, rfl, _⟩ := (hrd W0 []).some_ (by rw [chunk_length (k := 2) (fun _ _ => rfl)]; omega)
            have hce := fun w hm => Rd.chunkL (k := 2) (hrd W0 []) (fun _ _ => rfl) hlt w hm
            have hb1 : ∀ L, Rd W0 (ims.map imB :: L) (some ⟨ims[i].2.1, 0, none⟩) (bytesV ims[i].2.2.2.2) := fun L => ims_rd (List.getElem_mem hlt)
            obtain ⟨hrr, hrl⟩ := hrg _ (List.getElem_mem hlt)
            have hut := updG_take (some : List UInt8 → Option (List UInt8)) mS (l := ims.map imP) (i := i) (by simpa using hlt)
            rw [show (ims.map imP)[i]'(by simpa using hlt) = imP ims[i] by simp] at hut
            generalize ims[i] = e1 at hce hb1 hrr hrl hut
            obtain ⟨n1, b1, r1, k1, x1⟩ := e1
            simp only [imP] at hb1 hrr hrl hut
            refine C.skip ?_
            refine C.seq ?_
            refine C.block ?_
            refine C.seq ?_
            refine C.drawn mixed ([s3]) [] (fun _ h => h.fewer (by simp)) ?_
            refine GA.pure (i := 0) (fun _ _ _ _ _ h => h) rfl (by kernel_rfl) trivial rfl rfl (Y.moveP rfl rfl) (#[true, false, false, false, false, false, false, false, false, false, false, false, false]) (by kernel_rfl) ?_
            refine GA.pure (i := 1) (fun _ _ _ _ _ h => h) rfl (by kernel_rfl) trivial rfl rfl (Y.moveS rfl rfl) (#[true, true, false, false, false, false, false, false, false, false, false, false, false]) (by kernel_rfl) ?_
            refine GA.pure (i := 2) (fun _ _ _ _ _ h => h) rfl (by kernel_rfl) trivial rfl rfl (Y.moveI rfl rfl) (#[true, true, true, false, false, false, false, false, false, false, false, false, false]) (by kernel_rfl) ?_
            refine GA.pure (i := 3) (fun _ _ _ _ _ h => h) rfl (by kernel_rfl) trivial rfl rfl (Y.indexAddr rfl Try.underlying38 I40 rfl rfl (by omega)) (#[true, true, true, true, false, false, false, false, false, false, false, false, false]) (by kernel_rfl) ?_
            refine GA.pure (i := 4) (fun _ _ _ _ _ h => h) rfl (by kernel_rfl) trivial rfl rfl (Y.fieldAddr rfl Try.underlying40 rfl I3 rfl rfl) (#[true, true, true, true, true, false, false, false, false, false, false, false, false]) (by kernel_rfl) ?_
            refine GA.read (i := 5) (fun _ _ _ _ _ h => h) rfl (by kernel_rfl) (by kernel_rfl) trivial rfl rfl (Y.load rfl Try.underlying3 rfl rfl (fun w hm => hce w hm 0 _ rfl)) (#[true, true, true, true, true, true, false, false, false, false, false, false, false]) (by kernel_rfl) ?_
            refine GA.fix (d := 90) (v := .int .i64 n1) rfl ?_
            refine GA.pure (i := 6) (fun _ _ _ _ _ h => h) rfl (by kernel_rfl) trivial rfl rfl (Y.moveS rfl rfl) (#[true, true, true, true, true, true, true, false, false, false, false, false, false]) (by kernel_rfl) ?_
            refine GA.pure (i := 7) (fun _ _ _ _ _ h => h) rfl (by kernel_rfl) trivial rfl rfl (Y.moveI rfl rfl) (#[true, true, true, true, true, true, true, true, false, false, false, false, false]) (by kernel_rfl) ?_
            refine GA.pure (i := 8) (fun _ _ _ _ _ h => h) rfl (by kernel_rfl) trivial rfl rfl (Y.indexAddr rfl Try.underlying38 I40 rfl rfl (by omega)) (#[true, true, true, true, true, true, true, true, true, false, false, false, false]) (by kernel_rfl) ?_
            refine GA.pure (i := 9) (fun _ _ _ _ _ h => h) rfl (by kernel_rfl) trivial rfl rfl (Y.fieldAddr rfl Try.underlying40 rfl I22 rfl rfl) (#[true, true, true, true, true, true, true, true, true, true, false, false, false]) (by kernel_rfl) ?_
            refine GA.read (i := 10) (fun _ _ _ _ _ h => h) rfl (by kernel_rfl) (by kernel_rfl) trivial rfl rfl (Y.load rfl Try.underlying22 rfl rfl (fun w hm => hce w hm 1 _ rfl)) (#[true, true, true, true, true, true, true, true, true, true, true, false, false]) (by kernel_rfl) ?_
            refine GA.fix (d := 95) (v := .slice (some ⟨b1, 0, none⟩) x1.length r1) rfl ?_
            refine GA.one (i := 11) rfl (by kernel_rfl) (#[true, true, true, true, true, true, true, true, true, true, true, true, false]) (by kernel_rfl) ?_
            refine G.call E12 rfl rfl trivial rfl rfl (FnS.perm (tset_ok W0 bs _ _ _ hS2 hTs2 n1 hrr (some ⟨b1, 0, none⟩) r1 x1 hrl (hb1 _).cons) PX) rfl ?_
            rintro e L2 ⟨hS3, hTs3, rfl, rfl⟩
            refine G.less (L' := s3 :: ims.map imB :: hT :: hS3 :: bookSeg b22 noPages 0 :: []) (fun _ h => h.of_flat PX.symm) ?_
            refine G.nil ?_
            refine ⟨fun _ _ h => h.fewer (by simp), ?_⟩
            refine GA.pure (i := 12) (fun _ _ _ _ _ h => h) rfl (by kernel_rfl) trivial rfl rfl (Y.bin rfl rfl rfl rfl) (#[true, true, true, true, true, true, true, true, true, true, true, true, true]) (by kernel_rfl) ?_
            refine GA.done (by kernel_rfl) ?_
            refine C.no rfl (by simp) ?_
            refine C.skip ?_
            refine C.region ?_
            refine G.moveI rfl trivial rfl rfl rfl ?_
            refine G.addN (j := 1) rfl trivial rfl rfl rfl rfl (by omega) ?_
            refine G.assignI rfl trivial rfl rfl rfl ?_
            refine G.nil ?_
            exact ⟨ims.length - (i + 1) + 0, by omega, i + 1, hS3, rfl, by omega, by rw [hut]; exact hTs3, rfl, rfl, rfl, rfl, rfl, rfl, rfl⟩
          · intro hc3
            rw [List.take_of_length_le (by simp; omega)] at hTs2
            obtain ⟨mS2, hmS2⟩ : ∃ g, g = updG some mS (ims.map imP) := ⟨_, rfl⟩
            rw [← hmS2] at hTs2
            rw [hmi] at hmS2
            have hSh2 := top_sh hTs2 (.some (book_src W0 b22 hbk0))
            have hTh2 := top_sh hTt (.some (sheet_src W0 bs hSh2))
            rw [← hRb] at hSh2 hTh2
            have hnil := (two_law mT mS mS2 Rb _ hmS2 rfl).1
            refine C.exit ?_
            refine C.seq ?_
            refine C.seq ?_
            refine C.region ?_
            refine G.moveP rfl trivial rfl rfl rfl ?_
            refine G.call E16 rfl rfl trivial rfl rfl (FnS.perm (schanges_val W0 bt _ hTh2 [] hnil 0 rfl) PY) rfl ?_
            rintro e L2 ⟨a99, c99, s5, s6, hi99, rfl, rfl⟩
            refine G.less (L' := s3 :: ims.map imB :: hT :: hS2 :: bookSeg b22 noPages 0 :: []) (fun _ h => h.tail.tail.of_flat PY.symm) ?_
            refine G.lenSlice rfl trivial rfl rfl Try.underlying38 rfl ?_
            refine G.bin rfl trivial rfl rfl rfl rfl rfl ?_
            refine G.nil ?_
            refine C.no rfl (by simp) ?_
            refine C.skip ?_
            refine C.seq ?_
            refine C.region ?_
            refine G.moveP rfl trivial rfl rfl rfl ?_
            refine G.moveP rfl trivial rfl rfl rfl ?_
            refine G.call E16 rfl rfl trivial rfl rfl (FnS.perm (schanges_spec W0 bs _ hSh2) PZ) rfl ?_
            rintro e L2 ⟨ac2, cc2, s7, s8, hi104, rfl, rfl⟩
            obtain ⟨ims2, hmi2, hcp2, hon2, rfl⟩ := hi104
            obtain ⟨az2, cz2, haz2, hrd2⟩ := hon2.form
            simp only [Value.slice.injEq] at haz2
            obtain ⟨rfl, hln2, rfl⟩ := haz2
            have hrg2 := ims_rg hTs2.size hmi2
            have hle2 : (chL mS2 Rb).length ≤ 96 := chL_le _ _
            refine G.less (L' := bookSeg b22 noPages 0 :: s7 :: ims2.map imB :: hS2 :: s3 :: ims.map imB :: hT :: []) (fun _ h => mem_lay h) ?_
            refine G.call E19 rfl rfl trivial rfl rfl (lay_spec W0 b22 _ ac2 cc2 _ ims2 hln2.symm (by omega) (hrd2 W0 _) (fun e he => (ims_rd he).cons) hrg2 noPages hbk0) rfl ?_
            rintro e L2 ⟨ps2, hbk2, hR2, rfl, rfl⟩
            rw [← hRb, hmi2] at hR2
            refine G.less (L' := s3 :: ims.map imB :: hT :: hS2 :: bookSeg b22 ps2 0 :: []) (fun _ h => mem_laid h) ?_
            have hSh3 := top_sh hTs2 (.some (book_src W0 b22 hbk2))
            have hTh3 := top_sh hTt (.some (sheet_src W0 bs hSh3))
            have hall := (two_law mT mS mS2 Rb _ hmS2 hR2).2
            refine G.nil ?_
            refine C.seq ?_
            refine C.seq ?_
            refine C.region ?_
            refine G.assignI rfl trivial rfl rfl rfl ?_
            refine G.nil ?_
            refine C.block ?_
            refine C.loop (fun m F D' L' => ∃ (k : Nat), m = 96 - k + 0 ∧ k ≤ 96 ∧ F 6 = ptr b22 ∧ F 9 = ptr bt ∧ F 11 = .slice ac ims.length cc ∧ F 13 = .int .i64 (k : Int) ∧ D' = [] ∧ s3 :: ims.map imB :: hT :: hS2 :: bookSeg b22 ps2 0 :: [] = L') ⟨_, ⟨0, rfl, Nat.zero_le _, rfl, rfl, rfl, rfl, rfl, rfl⟩⟩ ?_
            rintro m F D' L' ⟨k, rfl, hk, h6, h9, h11, h13, rfl, rfl⟩
            refine C.fix (d := 6) h6 ?_
            refine C.fix (d := 9) h9 ?_
            refine C.fix (d := 11) h11 ?_
            refine C.fix (d := 13) h13 ?_
            refine C.seq ?_
            refine C.seq ?_
            refine C.region ?_
            refine G.moveI rfl trivial rfl rfl rfl ?_
            refine G.bin rfl trivial rfl rfl rfl rfl rfl ?_
            refine G.nil ?_
            refine C.cond _ rfl ?_ ?_
            · intro hc6
              have hk96 : k < 96 := by omega
              have hz : ansC (bookR ps2 0 (k : Int)) = 0 := ansC_ok (book_ok (by omega))
              have hpk := FnS.perm (spage_any W0 bt (s3 :: ims.map imB :: []) hTh3 (k : Int) (by omega)) (PY (x := s3) (y := ims.map imB) (t := hT) (s := hS2) (b := bookSeg b22 ps2 0) (L := []))
              rw [hall (k : Int) (by omega)] at hpk
              refine C.skip ?_
              refine C.seq ?_
              refine C.block ?_
              refine C.seq ?_
              refine C.region ?_
              refine G.moveP rfl trivial rfl rfl rfl ?_
              refine G.moveI rfl trivial rfl rfl rfl ?_
              refine G.call E13 rfl rfl trivial rfl rfl hpk rfl ?_
              rintro e L2 ⟨a14, c14, so1, hr14, rfl, rfl⟩
              refine G.moveU rfl trivial rfl rfl rfl ?_
              refine G.extractL rfl trivial rfl rfl rfl rfl ?_
              refine G.extractL rfl trivial rfl rfl rfl rfl ?_
              refine G.assignS rfl trivial rfl rfl rfl ?_
              refine G.assignI rfl trivial rfl rfl rfl ?_
              refine G.nil ?_
              refine C.seq ?_
              refine C.region ?_
              refine G.moveP rfl trivial rfl rfl rfl ?_
              refine G.moveI rfl trivial rfl rfl rfl ?_
              refine G.call E14 rfl rfl trivial rfl rfl (FnS.perm (inner_any W0 bs _ hSh3 (book_src W0 b22 hbk2) (k : Int) (by omega)) PW) rfl ?_
              rintro e L2 ⟨a16, c16, so2, hr16, rfl, rfl⟩
              refine G.moveU rfl trivial rfl rfl rfl ?_
              refine G.extractL rfl trivial rfl rfl rfl rfl ?_
              refine G.extractL rfl trivial rfl rfl rfl rfl ?_
              refine G.assignS rfl trivial rfl rfl rfl ?_
              refine G.assignI rfl trivial rfl rfl rfl ?_
              refine G.nil ?_
              refine C.seq ?_
              refine C.region ?_
              refine G.moveI rfl trivial rfl rfl rfl ?_
              refine G.bin rfl trivial rfl rfl rfl rfl rfl ?_
              refine G.moveB rfl trivial rfl rfl rfl ?_
              refine G.no (t := 124) rfl (fun h => h hz) ?_
              refine G.moveI rfl ⟨_, rfl, rfl, rfl⟩ rfl rfl rfl ?_
              refine G.bin rfl ⟨_, rfl, rfl, rfl⟩ rfl rfl rfl rfl rfl ?_
              first | refine G.pickT rfl trivial rfl rfl rfl rfl ?_ | refine G.pickF rfl trivial rfl rfl rfl rfl ?_
              refine G.moveB rfl trivial rfl rfl rfl ?_
              refine G.no (t := 128) rfl (fun h => h hz) ?_
              refine G.moveS rfl ⟨_, rfl, rfl, rfl⟩ rfl rfl rfl ?_
              refine G.bytesStr (ansB (bookR ps2 0 (k : Int))) rfl ⟨_, rfl, rfl, rfl⟩ rfl rfl Try.underlying22 Try.underlying5 Try.underlying9 rfl rfl ((hr14 _ _).cons.cons) ?_
              refine G.moveS rfl ⟨_, rfl, rfl, rfl⟩ rfl rfl rfl ?_
              refine G.bytesStr (ansB (bookR ps2 0 (k : Int))) rfl ⟨_, rfl, rfl, rfl⟩ rfl rfl Try.underlying22 Try.underlying5 Try.underlying9 rfl rfl (hr16 _ _) ?_
              refine G.strNe rfl ⟨_, rfl, rfl, rfl⟩ rfl rfl  rfl rfl ?_
              first | refine G.pickT rfl trivial rfl rfl rfl rfl ?_ | refine G.pickF rfl trivial rfl rfl rfl rfl ?_
              refine G.nil ?_
              refine C.no rfl (by simp) ?_
              refine C.skip ?_
              refine C.region ?_
              refine G.moveI rfl trivial rfl rfl rfl ?_
              refine G.addN (j := 1) rfl trivial rfl rfl rfl rfl (by omega) ?_
              refine G.assignI rfl trivial rfl rfl rfl ?_
              refine G.less (L' := s3 :: ims.map imB :: hT :: hS2 :: bookSeg b22 ps2 0 :: []) (fun _ h => mem_round h) ?_
              refine G.nil ?_
              exact ⟨96 - (k + 1) + 0, by omega, k + 1, rfl, by omega, rfl, rfl, rfl, rfl, rfl, rfl⟩
            · intro hc6
              refine C.exit ?_
              refine C.seq ?_
              refine C.region ?_
              refine G.moveS rfl trivial rfl rfl rfl ?_
              refine G.call E20 rfl rfl trivial rfl rfl (may_spec W0 _ ac cc _ ims rfl hle (hrd W0 _) hrg (by rw [hmi]; exact chK_up _ _ 96)) rfl ?_
              rintro e L2 ⟨rfl, rfl⟩
              by_cases hone : 1 ≤ ims.length
              ·
                refine G.moveB rfl trivial rfl rfl rfl ?_
                refine G.yes (t := 137) rfl (hone) ?_
                refine G.skip rfl rfl rfl rfl rfl rfl ?_
                refine G.skip rfl rfl rfl rfl rfl rfl ?_
                refine G.skip rfl rfl rfl rfl rfl rfl ?_
                first | refine G.pickT rfl trivial rfl rfl rfl rfl ?_ | refine G.pickF rfl trivial rfl rfl rfl rfl ?_
                refine G.assignB rfl trivial rfl rfl rfl ?_
                refine G.nil ?_
                refine C.ret ?_
                -- end g30Tc1Fg57Tc2Fc3Fc6Fx137T
                exact ⟨rfl, _, Res.of (rs := [.tmp 4]) rfl rfl, rfl⟩
              ·
                refine G.moveB rfl trivial rfl rfl rfl ?_
                refine G.no (t := 137) rfl (hone) ?_
                refine G.moveS rfl ⟨_, rfl, rfl, rfl⟩ rfl rfl rfl ?_
                refine G.lenSlice rfl ⟨_, rfl, rfl, rfl⟩ rfl rfl Try.underlying38 rfl ?_
                refine G.bin rfl ⟨_, rfl, rfl, rfl⟩ rfl rfl rfl rfl rfl ?_
                first | refine G.pickT rfl trivial rfl rfl rfl rfl ?_ | refine G.pickF rfl trivial rfl rfl rfl rfl ?_
                refine G.assignB rfl trivial rfl rfl rfl ?_
                refine G.nil ?_
                refine C.ret ?_
                -- end g30Tc1Fg57Tc2Fc3Fc6Fx137F
                exact ⟨rfl, _, Res.of (rs := [.tmp 4]) rfl rfl, by show Ending.returned (Value.bool (decide _)) = _; rw [decide_eq_true (by omega)]⟩
      · intro hg57
        refine G.skip rfl rfl rfl rfl rfl rfl ?_
        refine G.skip rfl rfl rfl rfl rfl rfl ?_
        first | refine G.pickT rfl trivial rfl rfl rfl rfl ?_ | refine G.pickF rfl trivial rfl rfl rfl rfl ?_
        refine G.nil ?_
        refine C.condF rfl ?_
        refine C.exit ?_
        refine C.seq ?_
        refine C.region ?_
        have hSh := top_sh hTs (.some (book_src W0 b22 hbk0))
        have hTh := top_sh hTt (.some (sheet_src W0 bs hSh))
        obtain ⟨Rb, hRb⟩ : ∃ R, R = bookR noPages 0 := ⟨_, rfl⟩
        rw [← hRb] at hSh hTh
        refine G.moveP rfl trivial rfl rfl rfl ?_
        refine G.call E16 rfl rfl trivial rfl rfl (FnS.perm (schanges_spec W0 bt [] hTh) TA) rfl ?_
        rintro e L2 ⟨ac, cc, s3, s4, hi78, rfl, rfl⟩
        obtain ⟨ims, hmi, hcp, hon, rfl⟩ := hi78
        obtain ⟨az, cz, haz, hrd⟩ := hon.form
        simp only [Value.slice.injEq] at haz
        obtain ⟨rfl, hln, rfl⟩ := haz
        rw [hln]
        have hrg := ims_rg hTt.size hmi
        have hle : ims.length ≤ 96 := by rw [← hln]; exact chL_le _ _
        refine G.less (L' := s3 :: ims.map imB :: hT :: hS :: bookSeg b22 noPages 0 :: []) (fun _ h => h.of_flat (by simp)) ?_
        refine G.assignS rfl trivial rfl rfl rfl ?_
        refine G.nil ?_
        refine C.seq ?_
        refine C.seq ?_
        refine C.region ?_
        refine G.assignI rfl trivial rfl rfl rfl ?_
        refine G.nil ?_
        refine C.block ?_
        refine C.loop (fun m F D' L' => ∃ (i : Nat) (hS2 : Seg), m = ims.length - i + 0 ∧ i ≤ ims.length ∧ TopIs bs (.iface 25 (ptr b22)) (updG some mS ((ims.map imP).take i)) hS2 ∧ F 6 = ptr b22 ∧ F 7 = ptr bs ∧ F 9 = ptr bt ∧ F 11 = .slice ac ims.length cc ∧ F 12 = .int .i64 (i : Int) ∧ D' = [] ∧ s3 :: ims.map imB :: hT :: hS2 :: bookSeg b22 noPages 0 :: [] = L') ⟨_, ⟨0, hS, rfl, Nat.zero_le _, hTs, rfl, rfl, rfl, rfl, rfl, rfl, rfl⟩⟩ ?_
        rintro m F D' L' ⟨i, hS2, rfl, hi, hTs2, h6, h7, h9, h11, h12, rfl, rfl⟩
        refine C.fix (d := 6) h6 ?_
        refine C.fix (d := 7) h7 ?_
        refine C.fix (d := 9) h9 ?_
        refine C.fix (d := 11) h11 ?_
        refine C.fix (d := 12) h12 ?_
        refine C.seq ?_
        refine C.seq ?_
        refine C.region ?_
        refine G.moveI rfl trivial rfl rfl rfl ?_
        refine G.moveS rfl trivial rfl rfl rfl ?_
        refine G.lenSlice rfl trivial rfl rfl Try.underlying38 rfl ?_
        refine G.bin rfl trivial rfl rfl rfl rfl rfl ?_
        refine G.nil ?_
        refine C.cond _ rfl ?_ ?_
        · intro hc3
          have hlt : i < ims.length := by omega
          obtain ⟨p, o, rfl, _⟩ := (hrd W0 []).some_ (by rw [chunk_length (k := 2) (fun _ _ => rfl)]; omega)
          have hce := fun w hm => Rd.chunkL (k := 2) (hrd W0 []) (fun _ _ => rfl) hlt w hm
          have hb1 : ∀ L, Rd W0 (ims.map imB :: L) (some ⟨ims[i].2.1, 0, none⟩) (bytesV ims[i].2.2.2.2) := fun L => ims_rd (List.getElem_mem hlt)
          obtain ⟨hrr, hrl⟩ := hrg _ (List.getElem_mem hlt)
          have hut := updG_take (some : List UInt8 → Option (List UInt8)) mS (l := ims.map imP) (i := i) (by simpa using hlt)
          rw [show (ims.map imP)[i]'(by simpa using hlt) = imP ims[i] by simp] at hut
          generalize ims[i] = e1 at hce hb1 hrr hrl hut
          obtain ⟨n1, b1, r1, k1, x1⟩ := e1
          simp only [imP] at hb1 hrr hrl hut
          refine C.skip ?_
          refine C.seq ?_
          refine C.block ?_
          refine C.seq ?_
          refine C.drawn mixed ([s3]) [] (fun _ h => h.fewer (by simp)) ?_
          refine GA.pure (i := 0) (fun _ _ _ _ _ h => h) rfl (by kernel_rfl) trivial rfl rfl (Y.moveP rfl rfl) (#[true, false, false, false, false, false, false, false, false, false, false, false, false]) (by kernel_rfl) ?_
          refine GA.pure (i := 1) (fun _ _ _ _ _ h => h) rfl (by kernel_rfl) trivial rfl rfl (Y.moveS rfl rfl) (#[true, true, false, false, false, false, false, false, false, false, false, false, false]) (by kernel_rfl) ?_
          refine GA.pure (i := 2) (fun _ _ _ _ _ h => h) rfl (by kernel_rfl) trivial rfl rfl (Y.moveI rfl rfl) (#[true, true, true, false, false, false, false, false, false, false, false, false, false]) (by kernel_rfl) ?_
          refine GA.pure (i := 3) (fun _ _ _ _ _ h => h) rfl (by kernel_rfl) trivial rfl rfl (Y.indexAddr rfl Try.underlying38 I40 rfl rfl (by omega)) (#[true, true, true, true, false, false, false, false, false, false, false, false, false]) (by kernel_rfl) ?_
          refine GA.pure (i := 4) (fun _ _ _ _ _ h => h) rfl (by kernel_rfl) trivial rfl rfl (Y.fieldAddr rfl Try.underlying40 rfl I3 rfl rfl) (#[true, true, true, true, true, false, false, false, false, false, false, false, false]) (by kernel_rfl) ?_
          refine GA.read (i := 5) (fun _ _ _ _ _ h => h) rfl (by kernel_rfl) (by kernel_rfl) trivial rfl rfl (Y.load rfl Try.underlying3 rfl rfl (fun w hm => hce w hm 0 _ rfl)) (#[true, true, true, true, true, true, false, false, false, false, false, false, false]) (by kernel_rfl) ?_
          refine GA.fix (d := 90) (v := .int .i64 n1) rfl ?_
          refine GA.pure (i := 6) (fun _ _ _ _ _ h => h) rfl (by kernel_rfl) trivial rfl rfl (Y.moveS rfl rfl) (#[true, true, true, true, true, true, true, false, false, false, false, false, false]) (by kernel_rfl) ?_
          refine GA.pure (i := 7) (fun _ _ _ _ _ h => h) rfl (by kernel_rfl) trivial rfl rfl (Y.moveI rfl rfl) (#[true, true, true, true, true, true, true, true, false, false, false, false, false]) (by kernel_rfl) ?_
          refine GA.pure (i := 8) (fun _ _ _ _ _ h => h) rfl (by kernel_rfl) trivial rfl rfl (Y.indexAddr rfl Try.underlying38 I40 rfl rfl (by omega)) (#[true, true, true, true, true, true, true, true, true, false, false, false, false]) (by kernel_rfl) ?_
          refine GA.pure (i := 9) (fun _ _ _ _ _ h => h) rfl (by kernel_rfl) trivial rfl rfl (Y.fieldAddr rfl Try.underlying40 rfl I22 rfl rfl) (#[true, true, true, true, true, true, true, true, true, true, false, false, false]) (by kernel_rfl) ?_
          refine GA.read (i := 10) (fun _ _ _ _ _ h => h) rfl (by kernel_rfl) (by kernel_rfl) trivial rfl rfl (Y.load rfl Try.underlying22 rfl rfl (fun w hm => hce w hm 1 _ rfl)) (#[true, true, true, true, true, true, true, true, true, true, true, false, false]) (by kernel_rfl) ?_
          refine GA.fix (d := 95) (v := .slice (some ⟨b1, 0, none⟩) x1.length r1) rfl ?_
          refine GA.one (i := 11) rfl (by kernel_rfl) (#[true, true, true, true, true, true, true, true, true, true, true, true, false]) (by kernel_rfl) ?_
          refine G.call E12 rfl rfl trivial rfl rfl (FnS.perm (tset_ok W0 bs _ _ _ hS2 hTs2 n1 hrr (some ⟨b1, 0, none⟩) r1 x1 hrl (hb1 _).cons) PX) rfl ?_
          rintro e L2 ⟨hS3, hTs3, rfl, rfl⟩
          refine G.less (L' := s3 :: ims.map imB :: hT :: hS3 :: bookSeg b22 noPages 0 :: []) (fun _ h => h.of_flat PX.symm) ?_
          refine G.nil ?_
          refine ⟨fun _ _ h => h.fewer (by simp), ?_⟩
          refine GA.pure (i := 12) (fun _ _ _ _ _ h => h) rfl (by kernel_rfl) trivial rfl rfl (Y.bin rfl rfl rfl rfl) (#[true, true, true, true, true, true, true, true, true, true, true, true, true]) (by kernel_rfl) ?_
          refine GA.done (by kernel_rfl) ?_
          refine C.no rfl (by simp) ?_
          refine C.skip ?_
          refine C.region ?_
          refine G.moveI rfl trivial rfl rfl rfl ?_
          refine G.addN (j := 1) rfl trivial rfl rfl rfl rfl (by omega) ?_
          refine G.assignI rfl trivial rfl rfl rfl ?_
          refine G.nil ?_
          exact ⟨ims.length - (i + 1) + 0, by omega, i + 1, hS3, rfl, by omega, by rw [hut]; exact hTs3, rfl, rfl, rfl, rfl, rfl, rfl, rfl⟩
        · intro hc3
          rw [List.take_of_length_le (by simp; omega)] at hTs2
          obtain ⟨mS2, hmS2⟩ : ∃ g, g = updG some mS (ims.map imP) := ⟨_, rfl⟩
          rw [← hmS2] at hTs2
          rw [hmi] at hmS2
          have hSh2 := top_sh hTs2 (.some (book_src W0 b22 hbk0))
          have hTh2 := top_sh hTt (.some (sheet_src W0 bs hSh2))
          rw [← hRb] at hSh2 hTh2
          have hnil := (two_law mT mS mS2 Rb _ hmS2 rfl).1
          refine C.exit ?_
          refine C.seq ?_
          refine C.seq ?_
          refine C.region ?_
          refine G.moveP rfl trivial rfl rfl rfl ?_
          refine G.call E16 rfl rfl trivial rfl rfl (FnS.perm (schanges_val W0 bt _ hTh2 [] hnil 0 rfl) PY) rfl ?_
          rintro e L2 ⟨a99, c99, s5, s6, hi99, rfl, rfl⟩
          refine G.less (L' := s3 :: ims.map imB :: hT :: hS2 :: bookSeg b22 noPages 0 :: []) (fun _ h => h.tail.tail.of_flat PY.symm) ?_
          refine G.lenSlice rfl trivial rfl rfl Try.underlying38 rfl ?_
          refine G.bin rfl trivial rfl rfl rfl rfl rfl ?_
          refine G.nil ?_
          refine C.no rfl (by simp) ?_
          refine C.skip ?_
          refine C.seq ?_
          refine C.region ?_
          refine G.moveP rfl trivial rfl rfl rfl ?_
          refine G.moveP rfl trivial rfl rfl rfl ?_
          refine G.call E16 rfl rfl trivial rfl rfl (FnS.perm (schanges_spec W0 bs _ hSh2) PZ) rfl ?_
          rintro e L2 ⟨ac2, cc2, s7, s8, hi104, rfl, rfl⟩
          obtain ⟨ims2, hmi2, hcp2, hon2, rfl⟩ := hi104
          obtain ⟨az2, cz2, haz2, hrd2⟩ := hon2.form
          simp only [Value.slice.injEq] at haz2
          obtain ⟨rfl, hln2, rfl⟩ := haz2
          have hrg2 := ims_rg hTs2.size hmi2
          have hle2 : (chL mS2 Rb).length ≤ 96 := chL_le _ _
          refine G.less (L' := bookSeg b22 noPages 0 :: s7 :: ims2.map imB :: hS2 :: s3 :: ims.map imB :: hT :: []) (fun _ h => mem_lay h) ?_
          refine G.call E19 rfl rfl trivial rfl rfl (lay_spec W0 b22 _ ac2 cc2 _ ims2 hln2.symm (by omega) (hrd2 W0 _) (fun e he => (ims_rd he).cons) hrg2 noPages hbk0) rfl ?_
          rintro e L2 ⟨ps2, hbk2, hR2, rfl, rfl⟩
          rw [← hRb, hmi2] at hR2
          refine G.less (L' := s3 :: ims.map imB :: hT :: hS2 :: bookSeg b22 ps2 0 :: []) (fun _ h => mem_laid h) ?_
          have hSh3 := top_sh hTs2 (.some (book_src W0 b22 hbk2))
          have hTh3 := top_sh hTt (.some (sheet_src W0 bs hSh3))
          have hall := (two_law mT mS mS2 Rb _ hmS2 hR2).2
          refine G.nil ?_
          refine C.seq ?_
          refine C.seq ?_
          refine C.region ?_
          refine G.assignI rfl trivial rfl rfl rfl ?_
          refine G.nil ?_
          refine C.block ?_
          refine C.loop (fun m F D' L' => ∃ (k : Nat), m = 96 - k + 0 ∧ k ≤ 96 ∧ F 6 = ptr b22 ∧ F 9 = ptr bt ∧ F 11 = .slice ac ims.length cc ∧ F 13 = .int .i64 (k : Int) ∧ D' = [] ∧ s3 :: ims.map imB :: hT :: hS2 :: bookSeg b22 ps2 0 :: [] = L') ⟨_, ⟨0, rfl, Nat.zero_le _, rfl, rfl, rfl, rfl, rfl, rfl⟩⟩ ?_
          rintro m F D' L' ⟨k, rfl, hk, h6, h9, h11, h13, rfl, rfl⟩
          refine C.fix (d := 6) h6 ?_
          refine C.fix (d := 9) h9 ?_
          refine C.fix (d := 11) h11 ?_
          refine C.fix (d := 13) h13 ?_
          refine C.seq ?_
          refine C.seq ?_
          refine C.region ?_
          refine G.moveI rfl trivial rfl rfl rfl ?_
          refine G.bin rfl trivial rfl rfl rfl rfl rfl ?_
          refine G.nil ?_
          refine C.cond _ rfl ?_ ?_
          · intro hc6
            have hk96 : k < 96 := by omega
            have hz : ansC (bookR ps2 0 (k : Int)) = 0 := ansC_ok (book_ok (by omega))
            have hpk := FnS.perm (spage_any W0 bt (s3 :: ims.map imB :: []) hTh3 (k : Int) (by omega)) (PY (x := s3) (y := ims.map imB) (t := hT) (s := hS2) (b := bookSeg b22 ps2 0) (L := []))
            rw [hall (k : Int) (by omega)] at hpk
            refine C.skip ?_
            refine C.seq ?_
            refine C.block ?_
            refine C.seq ?_
            refine C.region ?_
            refine G.moveP rfl trivial rfl rfl rfl ?_
            refine G.moveI rfl trivial rfl rfl rfl ?_
            refine G.call E13 rfl rfl trivial rfl rfl hpk rfl ?_
            rintro e L2 ⟨a14, c14, so1, hr14, rfl, rfl⟩
            refine G.moveU rfl trivial rfl rfl rfl ?_
            refine G.extractL rfl trivial rfl rfl rfl rfl ?_
            refine G.extractL rfl trivial rfl rfl rfl rfl ?_
            refine G.assignS rfl trivial rfl rfl rfl ?_
            refine G.assignI rfl trivial rfl rfl rfl ?_
            refine G.nil ?_
            refine C.seq ?_
            refine C.region ?_
            refine G.moveP rfl trivial rfl rfl rfl ?_
            refine G.moveI rfl trivial rfl rfl rfl ?_
            refine G.call E14 rfl rfl trivial rfl rfl (FnS.perm (inner_any W0 bs _ hSh3 (book_src W0 b22 hbk2) (k : Int) (by omega)) PW) rfl ?_
            rintro e L2 ⟨a16, c16, so2, hr16, rfl, rfl⟩
            refine G.moveU rfl trivial rfl rfl rfl ?_
            refine G.extractL rfl trivial rfl rfl rfl rfl ?_
            refine G.extractL rfl trivial rfl rfl rfl rfl ?_
            refine G.assignS rfl trivial rfl rfl rfl ?_
            refine G.assignI rfl trivial rfl rfl rfl ?_
            refine G.nil ?_
            refine C.seq ?_
            refine C.region ?_
            refine G.moveI rfl trivial rfl rfl rfl ?_
            refine G.bin rfl trivial rfl rfl rfl rfl rfl ?_
            refine G.moveB rfl trivial rfl rfl rfl ?_
            refine G.no (t := 124) rfl (fun h => h hz) ?_
            refine G.moveI rfl ⟨_, rfl, rfl, rfl⟩ rfl rfl rfl ?_
            refine G.bin rfl ⟨_, rfl, rfl, rfl⟩ rfl rfl rfl rfl rfl ?_
            first | refine G.pickT rfl trivial rfl rfl rfl rfl ?_ | refine G.pickF rfl trivial rfl rfl rfl rfl ?_
            refine G.moveB rfl trivial rfl rfl rfl ?_
            refine G.no (t := 128) rfl (fun h => h hz) ?_
            refine G.moveS rfl ⟨_, rfl, rfl, rfl⟩ rfl rfl rfl ?_
            refine G.bytesStr (ansB (bookR ps2 0 (k : Int))) rfl ⟨_, rfl, rfl, rfl⟩ rfl rfl Try.underlying22 Try.underlying5 Try.underlying9 rfl rfl ((hr14 _ _).cons.cons) ?_
            refine G.moveS rfl ⟨_, rfl, rfl, rfl⟩ rfl rfl rfl ?_
            refine G.bytesStr (ansB (bookR ps2 0 (k : Int))) rfl ⟨_, rfl, rfl, rfl⟩ rfl rfl Try.underlying22 Try.underlying5 Try.underlying9 rfl rfl (hr16 _ _) ?_
            refine G.strNe rfl ⟨_, rfl, rfl, rfl⟩ rfl rfl  rfl rfl ?_
            first | refine G.pickT rfl trivial rfl rfl rfl rfl ?_ | refine G.pickF rfl trivial rfl rfl rfl rfl ?_
            refine G.nil ?_
            refine C.no rfl (by simp) ?_
            refine C.skip ?_
            refine C.region ?_
            refine G.moveI rfl trivial rfl rfl rfl ?_
            refine G.addN (j := 1) rfl trivial rfl rfl rfl rfl (by omega) ?_
            refine G.assignI rfl trivial rfl rfl rfl ?_
            refine G.less (L' := s3 :: ims.map imB :: hT :: hS2 :: bookSeg b22 ps2 0 :: []) (fun _ h => mem_round h) ?_
            refine G.nil ?_
            exact ⟨96 - (k + 1) + 0, by omega, k + 1, rfl, by omega, rfl, rfl, rfl, rfl, rfl, rfl⟩
          · intro hc6
            refine C.exit ?_
            refine C.seq ?_
            refine C.region ?_
            refine G.moveS rfl trivial rfl rfl rfl ?_
            refine G.call E20 rfl rfl trivial rfl rfl (may_spec W0 _ ac cc _ ims rfl hle (hrd W0 _) hrg (by rw [hmi]; exact chK_up _ _ 96)) rfl ?_
            rintro e L2 ⟨rfl, rfl⟩
            by_cases hone : 1 ≤ ims.length
            ·
              refine G.moveB rfl trivial rfl rfl rfl ?_
              refine G.yes (t := 137) rfl (hone) ?_
              refine G.skip rfl rfl rfl rfl rfl rfl ?_
              refine G.skip rfl rfl rfl rfl rfl rfl ?_
              refine G.skip rfl rfl rfl rfl rfl rfl ?_
              first | refine G.pickT rfl trivial rfl rfl rfl rfl ?_ | refine G.pickF rfl trivial rfl rfl rfl rfl ?_
              refine G.assignB rfl trivial rfl rfl rfl ?_
              refine G.nil ?_
              refine C.ret ?_
              -- end g30Tc1Fg57Fc3Fc6Fx137T
              exact ⟨rfl, _, Res.of (rs := [.tmp 4]) rfl rfl, rfl⟩
            ·
              refine G.moveB rfl trivial rfl rfl rfl ?_
              refine G.no (t := 137) rfl (hone) ?_
              refine G.moveS rfl ⟨_, rfl, rfl, rfl⟩ rfl rfl rfl ?_
              refine G.lenSlice rfl ⟨_, rfl, rfl, rfl⟩ rfl rfl Try.underlying38 rfl ?_
              refine G.bin rfl ⟨_, rfl, rfl, rfl⟩ rfl rfl rfl rfl rfl ?_
              first | refine G.pickT rfl trivial rfl rfl rfl rfl ?_ | refine G.pickF rfl trivial rfl rfl rfl rfl ?_
              refine G.assignB rfl trivial rfl rfl rfl ?_
              refine G.nil ?_
              refine C.ret ?_
              -- end g30Tc1Fg57Fc3Fc6Fx137F
              exact ⟨rfl, _, Res.of (rs := [.tmp 4]) rfl rfl, by show Ending.returned (Value.bool (decide _)) = _; rw [decide_eq_true (by omega)]⟩
  · intro hg30
    refine G.skip rfl rfl rfl rfl rfl rfl ?_
    refine G.skip rfl rfl rfl rfl rfl rfl ?_
    first | refine G.pickT rfl trivial rfl rfl rfl rfl ?_ | refine G.pickF rfl trivial rfl rfl rfl rfl ?_
    refine G.nil ?_
    refine C.condF rfl ?_
    refine C.exit ?_
    refine C.seq ?_
    refine C.region ?_
    refine G.moveP rfl trivial rfl rfl rfl ?_
    refine G.makeInterface rfl trivial rfl rfl Try.underlying30 rfl ?_
    refine G.call E11 rfl rfl trivial rfl rfl (tnew_spec W0 _ 30 bs) rfl ?_
    rintro e L2 ⟨bt, hT, hTt, rfl, rfl⟩
    refine G.assignP rfl trivial rfl rfl rfl ?_
    refine G.nil ?_
    refine C.seq ?_
    refine C.seq ?_
    refine C.region ?_
    refine G.assignI rfl trivial rfl rfl rfl ?_
    refine G.nil ?_
    refine C.block ?_
    refine C.loop (fun m F D' L' => ∃ (i : Nat) (mT : Int → Option (List UInt8)) (hT : Seg), m = ops1.length - i + 0 ∧ i ≤ ops1.length ∧ i ≤ 20 ∧ TopIs bt (.iface 30 (ptr bs)) mT hT ∧ F 1 = .slice a1 ops1.length cap1 ∧ F 6 = ptr b22 ∧ F 7 = ptr bs ∧ F 9 = ptr bt ∧ F 10 = .int .i64 (i : Int) ∧ D' = [] ∧ hT :: hS :: bookSeg b22 noPages 0 :: [] = L') ⟨_, ⟨0, _, hT, rfl, Nat.zero_le _, Nat.zero_le _, hTt, rfl, rfl, rfl, rfl, rfl, rfl, rfl⟩⟩ ?_
    rintro m F D' L' ⟨i, mT, hT, rfl, hi, hi20, hTt, h1', h6, h7, h9, h10, rfl, rfl⟩
    refine C.fix (d := 1) h1' ?_
    refine C.fix (d := 6) h6 ?_
    refine C.fix (d := 7) h7 ?_
    refine C.fix (d := 9) h9 ?_
    refine C.fix (d := 10) h10 ?_
    refine C.seq ?_
    refine C.seq ?_
    refine C.region ?_
    refine G.moveI rfl trivial rfl rfl rfl ?_
    refine G.moveS rfl trivial rfl rfl rfl ?_
    refine G.lenSlice rfl trivial rfl rfl Try.underlying23 rfl ?_
    refine G.bin rfl trivial rfl rfl rfl rfl rfl ?_
    refine G.moveB rfl trivial rfl rfl rfl ?_
    refine G.fork (t := 57) _ rfl ?_ ?_
    · intro hg57
      refine G.moveI rfl ⟨_, rfl, rfl, rfl⟩ rfl rfl rfl ?_
      refine G.bin rfl ⟨_, rfl, rfl, rfl⟩ rfl rfl rfl rfl rfl ?_
      first | refine G.pickT rfl trivial rfl rfl rfl rfl ?_ | refine G.pickF rfl trivial rfl rfl rfl rfl ?_
      refine G.nil ?_
      refine C.cond _ rfl ?_ ?_
      · intro hc2
        have hlt : i < ops1.length := by have h := hg57; omega
        obtain ⟨p, o, rfl, _⟩ := (hr1 []).some_ (by rw [chunk_length (k := 3) (fun _ _ => rfl)]; omega)
        obtain ⟨hoc, hom, hno, hor⟩ := hwf1 _ (List.getElem_mem hlt)
        have hce := fun L w hm => cellS (L := L) hr1 hlt w hm
        generalize ops1[i] = op at hoc hom hno hor hce
        obtain ⟨kd, no, oa, oc, l⟩ := op
        simp only at hoc hom hno hor
        refine C.skip ?_
        refine C.seq ?_
        refine C.block ?_
        refine C.drawn mixed ([]) [] (fun _ h => memNone h) ?_
        refine GA.pure (i := 0) (fun _ _ _ _ _ h => h) rfl (by kernel_rfl) trivial rfl rfl (Y.moveP rfl rfl) (#[true, false, false, false, false, false, false, false, false, false, false, false, false, false]) (by kernel_rfl) ?_
        refine GA.pure (i := 1) (fun _ _ _ _ _ h => h) rfl (by kernel_rfl) trivial rfl rfl (Y.moveS rfl rfl) (#[true, true, false, false, false, false, false, false, false, false, false, false, false, false]) (by kernel_rfl) ?_
        refine GA.pure (i := 2) (fun _ _ _ _ _ h => h) rfl (by kernel_rfl) trivial rfl rfl (Y.moveI rfl rfl) (#[true, true, true, false, false, false, false, false, false, false, false, false, false, false]) (by kernel_rfl) ?_
        refine GA.pure (i := 3) (fun _ _ _ _ _ h => h) rfl (by kernel_rfl) trivial rfl rfl (Y.indexAddr rfl Try.underlying23 I33 rfl rfl (by omega)) (#[true, true, true, true, false, false, false, false, false, false, false, false, false, false]) (by kernel_rfl) ?_
        refine GA.pure (i := 4) (fun _ _ _ _ _ h => h) rfl (by kernel_rfl) trivial rfl rfl (Y.fieldAddr rfl Try.underlying33 rfl I3 rfl rfl) (#[true, true, true, true, true, false, false, false, false, false, false, false, false, false]) (by kernel_rfl) ?_
        refine GA.read (i := 5) (fun _ _ _ _ _ h => h) rfl (by kernel_rfl) (by kernel_rfl) trivial rfl rfl (Y.load rfl Try.underlying3 rfl rfl (fun w hm => hce _ w hm 1 _ rfl)) (#[true, true, true, true, true, true, false, false, false, false, false, false, false, false]) (by kernel_rfl) ?_
        refine GA.fix (d := 68) (v := .int .i64 no) rfl ?_
        refine GA.pure (i := 6) (fun _ _ _ _ _ h => h) rfl (by kernel_rfl) trivial rfl rfl (Y.moveS rfl rfl) (#[true, true, true, true, true, true, true, false, false, false, false, false, false, false]) (by kernel_rfl) ?_
        refine GA.pure (i := 7) (fun _ _ _ _ _ h => h) rfl (by kernel_rfl) trivial rfl rfl (Y.moveI rfl rfl) (#[true, true, true, true, true, true, true, true, false, false, false, false, false, false]) (by kernel_rfl) ?_
        refine GA.pure (i := 8) (fun _ _ _ _ _ h => h) rfl (by kernel_rfl) trivial rfl rfl (Y.indexAddr rfl Try.underlying23 I33 rfl rfl (by omega)) (#[true, true, true, true, true, true, true, true, true, false, false, false, false, false]) (by kernel_rfl) ?_
        refine GA.pure (i := 9) (fun _ _ _ _ _ h => h) rfl (by kernel_rfl) trivial rfl rfl (Y.fieldAddr rfl Try.underlying33 rfl I22 rfl rfl) (#[true, true, true, true, true, true, true, true, true, true, false, false, false, false]) (by kernel_rfl) ?_
        refine GA.read (i := 10) (fun _ _ _ _ _ h => h) rfl (by kernel_rfl) (by kernel_rfl) trivial rfl rfl (Y.load rfl Try.underlying22 rfl rfl (fun w hm => hce _ w hm 2 _ rfl)) (#[true, true, true, true, true, true, true, true, true, true, true, false, false, false]) (by kernel_rfl) ?_
        refine GA.fix (d := 73) (v := .slice oa l.length oc) rfl ?_
        refine GA.one (i := 11) rfl (by kernel_rfl) (#[true, true, true, true, true, true, true, true, true, true, true, true, false, false]) (by kernel_rfl) ?_
        refine G.call E18 rfl rfl trivial rfl rfl (short_spec W0 _ oa oc l hoc hom) rfl ?_
        rintro e L2 ⟨rfl, rfl⟩
        refine G.nil ?_
        refine ⟨fun _ _ h => memNone h, ?_⟩
        refine GA.one (i := 12) rfl (by kernel_rfl) (#[true, true, true, true, true, true, true, true, true, true, true, true, true, false]) (by kernel_rfl) ?_
        refine G.call E10 rfl rfl trivial rfl rfl (of_spec W0 _ oa oc (l.take 256) (fun s => by rw [← bytesV_take]; exact (hor _).take)) rfl ?_
        rintro e L2 ⟨bp, rfl, rfl⟩
        refine G.nil ?_
        refine ⟨fun _ _ h => memNone h, ?_⟩
        refine GA.one (i := 13) rfl (by kernel_rfl) (#[true, true, true, true, true, true, true, true, true, true, true, true, true, true]) (by kernel_rfl) ?_
        refine G.call E12 rfl rfl trivial rfl rfl (FnS.perm (tset_val W0 bt _ _ mT hT hTt no (some ⟨bp, 0, none⟩) 256 (ofB (l.take 256)) 256 (ofB_length _) (Rd.row0 .here)) P2) rfl ?_
        rintro e L2 ⟨mT2, hT2, hTt2, rfl, r76, rfl⟩
        refine G.less (L' := hT2 :: hS :: bookSeg b22 noPages 0 :: []) (fun _ h => h.skip1) ?_
        refine G.nil ?_
        refine ⟨fun _ _ h => memNone h, ?_⟩
        refine GA.done (by kernel_rfl) ?_
        refine C.region ?_
        refine G.moveI rfl trivial rfl rfl rfl ?_
        refine G.addN (j := 1) rfl trivial rfl rfl rfl rfl (by omega) ?_
        refine G.assignI rfl trivial rfl rfl rfl ?_
        refine G.nil ?_
        exact ⟨ops1.length - (i + 1) + 0, by omega, i + 1, mT2, hT2, rfl, by omega, by omega, hTt2, rfl, rfl, rfl, rfl, rfl, rfl, rfl⟩
      · intro hc2
        refine C.exit ?_
        refine C.seq ?_
        refine C.region ?_
        have hSh := top_sh hTs (.some (book_src W0 b22 hbk0))
        have hTh := top_sh hTt (.some (sheet_src W0 bs hSh))
        obtain ⟨Rb, hRb⟩ : ∃ R, R = bookR noPages 0 := ⟨_, rfl⟩
        rw [← hRb] at hSh hTh
        refine G.moveP rfl trivial rfl rfl rfl ?_
        refine G.call E16 rfl rfl trivial rfl rfl (FnS.perm (schanges_spec W0 bt [] hTh) TA) rfl ?_
        rintro e L2 ⟨ac, cc, s3, s4, hi78, rfl, rfl⟩
        obtain ⟨ims, hmi, hcp, hon, rfl⟩ := hi78
        obtain ⟨az, cz, haz, hrd⟩ := hon.form
        simp only [Value.slice.injEq] at haz
        obtain ⟨rfl, hln, rfl⟩ := haz
        rw [hln]
        have hrg := ims_rg hTt.size hmi
        have hle : ims.length ≤ 96 := by rw [← hln]; exact chL_le _ _
        refine G.less (L' := s3 :: ims.map imB :: hT :: hS :: bookSeg b22 noPages 0 :: []) (fun _ h => h.of_flat (by simp)) ?_
        refine G.assignS rfl trivial rfl rfl rfl ?_
        refine G.nil ?_
        refine C.seq ?_
        refine C.seq ?_
        refine C.region ?_
        refine G.assignI rfl trivial rfl rfl rfl ?_
        refine G.nil ?_
        refine C.block ?_
        refine C.loop (fun m F D' L' => ∃ (i : Nat) (hS2 : Seg), m = ims.length - i + 0 ∧ i ≤ ims.length ∧ TopIs bs (.iface 25 (ptr b22)) (updG some mS ((ims.map imP).take i)) hS2 ∧ F 6 = ptr b22 ∧ F 7 = ptr bs ∧ F 9 = ptr bt ∧ F 11 = .slice ac ims.length cc ∧ F 12 = .int .i64 (i : Int) ∧ D' = [] ∧ s3 :: ims.map imB :: hT :: hS2 :: bookSeg b22 noPages 0 :: [] = L') ⟨_, ⟨0, hS, rfl, Nat.zero_le _, hTs, rfl, rfl, rfl, rfl, rfl, rfl, rfl⟩⟩ ?_
        rintro m F D' L' ⟨i, hS2, rfl, hi, hTs2, h6, h7, h9, h11, h12, rfl, rfl⟩
        refine C.fix (d := 6) h6 ?_
        refine C.fix (d := 7) h7 ?_
        refine C.fix (d := 9) h9 ?_
        refine C.fix (d := 11) h11 ?_
        refine C.fix (d := 12) h12 ?_
        refine C.seq ?_
        refine C.seq ?_
        refine C.region ?_
        refine G.moveI rfl trivial rfl rfl rfl ?_
        refine G.moveS rfl trivial rfl rfl rfl ?_
        refine G.lenSlice rfl trivial rfl rfl Try.underlying38 rfl ?_
        refine G.bin rfl trivial rfl rfl rfl rfl rfl ?_
        refine G.nil ?_
        refine C.cond _ rfl ?_ ?_
        · intro hc3
          have hlt : i < ims.length := by omega
          obtain ⟨p, o, rfl, _⟩ := (hrd W0 []).some_ (by rw [chunk_length (k := 2) (fun _ _ => rfl)]; omega)
          have hce := fun w hm => Rd.chunkL (k := 2) (hrd W0 []) (fun _ _ => rfl) hlt w hm
          have hb1 : ∀ L, Rd W0 (ims.map imB :: L) (some ⟨ims[i].2.1, 0, none⟩) (bytesV ims[i].2.2.2.2) := fun L => ims_rd (List.getElem_mem hlt)
          obtain ⟨hrr, hrl⟩ := hrg _ (List.getElem_mem hlt)
          have hut := updG_take (some : List UInt8 → Option (List UInt8)) mS (l := ims.map imP) (i := i) (by simpa using hlt)
          rw [show (ims.map imP)[i]'(by simpa using hlt) = imP ims[i] by simp] at hut
          generalize ims[i] = e1 at hce hb1 hrr hrl hut
          obtain ⟨n1, b1, r1, k1, x1⟩ := e1
          simp only [imP] at hb1 hrr hrl hut
          refine C.skip ?_
          refine C.seq ?_
          refine C.block ?_
          refine C.seq ?_
          refine C.drawn mixed ([s3]) [] (fun _ h => h.fewer (by simp)) ?_
          refine GA.pure (i := 0) (fun _ _ _ _ _ h => h) rfl (by kernel_rfl) trivial rfl rfl (Y.moveP rfl rfl) (#[true, false, false, false, false, false, false, false, false, false, false, false, false]) (by kernel_rfl) ?_
          refine GA.pure (i := 1) (fun _ _ _ _ _ h => h) rfl (by kernel_rfl) trivial rfl rfl (Y.moveS rfl rfl) (#[true, true, false, false, false, false, false, false, false, false, false, false, false]) (by kernel_rfl) ?_
          refine GA.pure (i := 2) (fun _ _ _ _ _ h => h) rfl (by kernel_rfl) trivial rfl rfl (Y.moveI rfl rfl) (#[true, true, true, false, false, false, false, false, false, false, false, false, false]) (by kernel_rfl) ?_
          refine GA.pure (i := 3) (fun _ _ _ _ _ h => h) rfl (by kernel_rfl) trivial rfl rfl (Y.indexAddr rfl Try.underlying38 I40 rfl rfl (by omega)) (#[true, true, true, true, false, false, false, false, false, false, false, false, false]) (by kernel_rfl) ?_
          refine GA.pure (i := 4) (fun _ _ _ _ _ h => h) rfl (by kernel_rfl) trivial rfl rfl (Y.fieldAddr rfl Try.underlying40 rfl I3 rfl rfl) (#[true, true, true, true, true, false, false, false, false, false, false, false, false]) (by kernel_rfl) ?_
          refine GA.read (i := 5) (fun _ _ _ _ _ h => h) rfl (by kernel_rfl) (by kernel_rfl) trivial rfl rfl (Y.load rfl Try.underlying3 rfl rfl (fun w hm => hce w hm 0 _ rfl)) (#[true, true, true, true, true, true, false, false, false, false, false, false, false]) (by kernel_rfl) ?_
          refine GA.fix (d := 90) (v := .int .i64 n1) rfl ?_
          refine GA.pure (i := 6) (fun _ _ _ _ _ h => h) rfl (by kernel_rfl) trivial rfl rfl (Y.moveS rfl rfl) (#[true, true, true, true, true, true, true, false, false, false, false, false, false]) (by kernel_rfl) ?_
          refine GA.pure (i := 7) (fun _ _ _ _ _ h => h) rfl (by kernel_rfl) trivial rfl rfl (Y.moveI rfl rfl) (#[true, true, true, true, true, true, true, true, false, false, false, false, false]) (by kernel_rfl) ?_
          refine GA.pure (i := 8) (fun _ _ _ _ _ h => h) rfl (by kernel_rfl) trivial rfl rfl (Y.indexAddr rfl Try.underlying38 I40 rfl rfl (by omega)) (#[true, true, true, true, true, true, true, true, true, false, false, false, false]) (by kernel_rfl) ?_
          refine GA.pure (i := 9) (fun _ _ _ _ _ h => h) rfl (by kernel_rfl) trivial rfl rfl (Y.fieldAddr rfl Try.underlying40 rfl I22 rfl rfl) (#[true, true, true, true, true, true, true, true, true, true, false, false, false]) (by kernel_rfl) ?_
          refine GA.read (i := 10) (fun _ _ _ _ _ h => h) rfl (by kernel_rfl) (by kernel_rfl) trivial rfl rfl (Y.load rfl Try.underlying22 rfl rfl (fun w hm => hce w hm 1 _ rfl)) (#[true, true, true, true, true, true, true, true, true, true, true, false, false]) (by kernel_rfl) ?_
          refine GA.fix (d := 95) (v := .slice (some ⟨b1, 0, none⟩) x1.length r1) rfl ?_
          refine GA.one (i := 11) rfl (by kernel_rfl) (#[true, true, true, true, true, true, true, true, true, true, true, true, false]) (by kernel_rfl) ?_
          refine G.call E12 rfl rfl trivial rfl rfl (FnS.perm (tset_ok W0 bs _ _ _ hS2 hTs2 n1 hrr (some ⟨b1, 0, none⟩) r1 x1 hrl (hb1 _).cons) PX) rfl ?_
          rintro e L2 ⟨hS3, hTs3, rfl, rfl⟩
          refine G.less (L' := s3 :: ims.map imB :: hT :: hS3 :: bookSeg b22 noPages 0 :: []) (fun _ h => h.of_flat PX.symm) ?_
          refine G.nil ?_
          refine ⟨fun _ _ h => h.fewer (by simp), ?_⟩
          refine GA.pure (i := 12) (fun _ _ _ _ _ h => h) rfl (by kernel_rfl) trivial rfl rfl (Y.bin rfl rfl rfl rfl) (#[true, true, true, true, true, true, true, true, true, true, true, true, true]) (by kernel_rfl) ?_
          refine GA.done (by kernel_rfl) ?_
          refine C.no rfl (by simp) ?_
          refine C.skip ?_
          refine C.region ?_
          refine G.moveI rfl trivial rfl rfl rfl ?_
          refine G.addN (j := 1) rfl trivial rfl rfl rfl rfl (by omega) ?_
          refine G.assignI rfl trivial rfl rfl rfl ?_
          refine G.nil ?_
          exact ⟨ims.length - (i + 1) + 0, by omega, i + 1, hS3, rfl, by omega, by rw [hut]; exact hTs3, rfl, rfl, rfl, rfl, rfl, rfl, rfl⟩
        · intro hc3
          rw [List.take_of_length_le (by simp; omega)] at hTs2
          obtain ⟨mS2, hmS2⟩ : ∃ g, g = updG some mS (ims.map imP) := ⟨_, rfl⟩
          rw [← hmS2] at hTs2
          rw [hmi] at hmS2
          have hSh2 := top_sh hTs2 (.some (book_src W0 b22 hbk0))
          have hTh2 := top_sh hTt (.some (sheet_src W0 bs hSh2))
          rw [← hRb] at hSh2 hTh2
          have hnil := (two_law mT mS mS2 Rb _ hmS2 rfl).1
          refine C.exit ?_
          refine C.seq ?_
          refine C.seq ?_
          refine C.region ?_
          refine G.moveP rfl trivial rfl rfl rfl ?_
          refine G.call E16 rfl rfl trivial rfl rfl (FnS.perm (schanges_val W0 bt _ hTh2 [] hnil 0 rfl) PY) rfl ?_
          rintro e L2 ⟨a99, c99, s5, s6, hi99, rfl, rfl⟩
          refine G.less (L' := s3 :: ims.map imB :: hT :: hS2 :: bookSeg b22 noPages 0 :: []) (fun _ h => h.tail.tail.of_flat PY.symm) ?_
          refine G.lenSlice rfl trivial rfl rfl Try.underlying38 rfl ?_
          refine G.bin rfl trivial rfl rfl rfl rfl rfl ?_
          refine G.nil ?_
          refine C.no rfl (by simp) ?_
          refine C.skip ?_
          refine C.seq ?_
          refine C.region ?_
          refine G.moveP rfl trivial rfl rfl rfl ?_
          refine G.moveP rfl trivial rfl rfl rfl ?_
          refine G.call E16 rfl rfl trivial rfl rfl (FnS.perm (schanges_spec W0 bs _ hSh2) PZ) rfl ?_
          rintro e L2 ⟨ac2, cc2, s7, s8, hi104, rfl, rfl⟩
          obtain ⟨ims2, hmi2, hcp2, hon2, rfl⟩ := hi104
          obtain ⟨az2, cz2, haz2, hrd2⟩ := hon2.form
          simp only [Value.slice.injEq] at haz2
          obtain ⟨rfl, hln2, rfl⟩ := haz2
          have hrg2 := ims_rg hTs2.size hmi2
          have hle2 : (chL mS2 Rb).length ≤ 96 := chL_le _ _
          refine G.less (L' := bookSeg b22 noPages 0 :: s7 :: ims2.map imB :: hS2 :: s3 :: ims.map imB :: hT :: []) (fun _ h => mem_lay h) ?_
          refine G.call E19 rfl rfl trivial rfl rfl (lay_spec W0 b22 _ ac2 cc2 _ ims2 hln2.symm (by omega) (hrd2 W0 _) (fun e he => (ims_rd he).cons) hrg2 noPages hbk0) rfl ?_
          rintro e L2 ⟨ps2, hbk2, hR2, rfl, rfl⟩
          rw [← hRb, hmi2] at hR2
          refine G.less (L' := s3 :: ims.map imB :: hT :: hS2 :: bookSeg b22 ps2 0 :: []) (fun _ h => mem_laid h) ?_
          have hSh3 := top_sh hTs2 (.some (book_src W0 b22 hbk2))
          have hTh3 := top_sh hTt (.some (sheet_src W0 bs hSh3))
          have hall := (two_law mT mS mS2 Rb _ hmS2 hR2).2
          refine G.nil ?_
          refine C.seq ?_
          refine C.seq ?_
          refine C.region ?_
          refine G.assignI rfl trivial rfl rfl rfl ?_
          refine G.nil ?_
          refine C.block ?_
          refine C.loop (fun m F D' L' => ∃ (k : Nat), m = 96 - k + 0 ∧ k ≤ 96 ∧ F 6 = ptr b22 ∧ F 9 = ptr bt ∧ F 11 = .slice ac ims.length cc ∧ F 13 = .int .i64 (k : Int) ∧ D' = [] ∧ s3 :: ims.map imB :: hT :: hS2 :: bookSeg b22 ps2 0 :: [] = L') ⟨_, ⟨0, rfl, Nat.zero_le _, rfl, rfl, rfl, rfl, rfl, rfl⟩⟩ ?_
          rintro m F D' L' ⟨k, rfl, hk, h6, h9, h11, h13, rfl, rfl⟩
          refine C.fix (d := 6) h6 ?_
          refine C.fix (d := 9) h9 ?_
          refine C.fix (d := 11) h11 ?_
          refine C.fix (d := 13) h13 ?_
          refine C.seq ?_
          refine C.seq ?_
          refine C.region ?_
          refine G.moveI rfl trivial rfl rfl rfl ?_
          refine G.bin rfl trivial rfl rfl rfl rfl rfl ?_
          refine G.nil ?_
          refine C.cond _ rfl ?_ ?_
          · intro hc6
            have hk96 : k < 96 := by omega
            have hz : ansC (bookR ps2 0 (k : Int)) = 0 := ansC_ok (book_ok (by omega))
            have hpk := FnS.perm (spage_any W0 bt (s3 :: ims.map imB :: []) hTh3 (k : Int) (by omega)) (PY (x := s3) (y := ims.map imB) (t := hT) (s := hS2) (b := bookSeg b22 ps2 0) (L := []))
            rw [hall (k : Int) (by omega)] at hpk
            refine C.skip ?_
            refine C.seq ?_
            refine C.block ?_
            refine C.seq ?_
            refine C.region ?_
            refine G.moveP rfl trivial rfl rfl rfl ?_
            refine G.moveI rfl trivial rfl rfl rfl ?_
            refine G.call E13 rfl rfl trivial rfl rfl hpk rfl ?_
            rintro e L2 ⟨a14, c14, so1, hr14, rfl, rfl⟩
            refine G.moveU rfl trivial rfl rfl rfl ?_
            refine G.extractL rfl trivial rfl rfl rfl rfl ?_
            refine G.extractL rfl trivial rfl rfl rfl rfl ?_
            refine G.assignS rfl trivial rfl rfl rfl ?_
            refine G.assignI rfl trivial rfl rfl rfl ?_
            refine G.nil ?_
            refine C.seq ?_
            refine C.region ?_
            refine G.moveP rfl trivial rfl rfl rfl ?_
            refine G.moveI rfl trivial rfl rfl rfl ?_
            refine G.call E14 rfl rfl trivial rfl rfl (FnS.perm (inner_any W0 bs _ hSh3 (book_src W0 b22 hbk2) (k : Int) (by omega)) PW) rfl ?_
            rintro e L2 ⟨a16, c16, so2, hr16, rfl, rfl⟩
            refine G.moveU rfl trivial rfl rfl rfl ?_
            refine G.extractL rfl trivial rfl rfl rfl rfl ?_
            refine G.extractL rfl trivial rfl rfl rfl rfl ?_
            refine G.assignS rfl trivial rfl rfl rfl ?_
            refine G.assignI rfl trivial rfl rfl rfl ?_
            refine G.nil ?_
            refine C.seq ?_
            refine C.region ?_
            refine G.moveI rfl trivial rfl rfl rfl ?_
            refine G.bin rfl trivial rfl rfl rfl rfl rfl ?_
            refine G.moveB rfl trivial rfl rfl rfl ?_
            refine G.no (t := 124) rfl (fun h => h hz) ?_
            refine G.moveI rfl ⟨_, rfl, rfl, rfl⟩ rfl rfl rfl ?_
            refine G.bin rfl ⟨_, rfl, rfl, rfl⟩ rfl rfl rfl rfl rfl ?_
            first | refine G.pickT rfl trivial rfl rfl rfl rfl ?_ | refine G.pickF rfl trivial rfl rfl rfl rfl ?_
            refine G.moveB rfl trivial rfl rfl rfl ?_
            refine G.no (t := 128) rfl (fun h => h hz) ?_
            refine G.moveS rfl ⟨_, rfl, rfl, rfl⟩ rfl rfl rfl ?_
            refine G.bytesStr (ansB (bookR ps2 0 (k : Int))) rfl ⟨_, rfl, rfl, rfl⟩ rfl rfl Try.underlying22 Try.underlying5 Try.underlying9 rfl rfl ((hr14 _ _).cons.cons) ?_
            refine G.moveS rfl ⟨_, rfl, rfl, rfl⟩ rfl rfl rfl ?_
            refine G.bytesStr (ansB (bookR ps2 0 (k : Int))) rfl ⟨_, rfl, rfl, rfl⟩ rfl rfl Try.underlying22 Try.underlying5 Try.underlying9 rfl rfl (hr16 _ _) ?_
            refine G.strNe rfl ⟨_, rfl, rfl, rfl⟩ rfl rfl  rfl rfl ?_
            first | refine G.pickT rfl trivial rfl rfl rfl rfl ?_ | refine G.pickF rfl trivial rfl rfl rfl rfl ?_
            refine G.nil ?_
            refine C.no rfl (by simp) ?_
            refine C.skip ?_
            refine C.region ?_
            refine G.moveI rfl trivial rfl rfl rfl ?_
            refine G.addN (j := 1) rfl trivial rfl rfl rfl rfl (by omega) ?_
            refine G.assignI rfl trivial rfl rfl rfl ?_
            refine G.less (L' := s3 :: ims.map imB :: hT :: hS2 :: bookSeg b22 ps2 0 :: []) (fun _ h => mem_round h) ?_
            refine G.nil ?_
            exact ⟨96 - (k + 1) + 0, by omega, k + 1, rfl, by omega, rfl, rfl, rfl, rfl, rfl, rfl⟩
          · intro hc6
            refine C.exit ?_
            refine C.seq ?_
            refine C.region ?_
            refine G.moveS rfl trivial rfl rfl rfl ?_
            refine G.call E20 rfl rfl trivial rfl rfl (may_spec W0 _ ac cc _ ims rfl hle (hrd W0 _) hrg (by rw [hmi]; exact chK_up _ _ 96)) rfl ?_
            rintro e L2 ⟨rfl, rfl⟩
            by_cases hone : 1 ≤ ims.length
            ·
              refine G.moveB rfl trivial rfl rfl rfl ?_
              refine G.yes (t := 137) rfl (hone) ?_
              refine G.skip rfl rfl rfl rfl rfl rfl ?_
              refine G.skip rfl rfl rfl rfl rfl rfl ?_
              refine G.skip rfl rfl rfl rfl rfl rfl ?_
              first | refine G.pickT rfl trivial rfl rfl rfl rfl ?_ | refine G.pickF rfl trivial rfl rfl rfl rfl ?_
              refine G.assignB rfl trivial rfl rfl rfl ?_
              refine G.nil ?_
              refine C.ret ?_
              -- end g30Fg57Tc2Fc3Fc6Fx137T
              exact ⟨rfl, _, Res.of (rs := [.tmp 4]) rfl rfl, rfl⟩
            ·
              refine G.moveB rfl trivial rfl rfl rfl ?_
              refine G.no (t := 137) rfl (hone) ?_
              refine G.moveS rfl ⟨_, rfl, rfl, rfl⟩ rfl rfl rfl ?_
              refine G.lenSlice rfl ⟨_, rfl, rfl, rfl⟩ rfl rfl Try.underlying38 rfl ?_
              refine G.bin rfl ⟨_, rfl, rfl, rfl⟩ rfl rfl rfl rfl rfl ?_
              first | refine G.pickT rfl trivial rfl rfl rfl rfl ?_ | refine G.pickF rfl trivial rfl rfl rfl rfl ?_
              refine G.assignB rfl trivial rfl rfl rfl ?_
              refine G.nil ?_
              refine C.ret ?_
              -- end g30Fg57Tc2Fc3Fc6Fx137F
              exact ⟨rfl, _, Res.of (rs := [.tmp 4]) rfl rfl, by show Ending.returned (Value.bool (decide _)) = _; rw [decide_eq_true (by omega)]⟩
    · intro hg57
      refine G.skip rfl rfl rfl rfl rfl rfl ?_
      refine G.skip rfl rfl rfl rfl rfl rfl ?_
      first | refine G.pickT rfl trivial rfl rfl rfl rfl ?_ | refine G.pickF rfl trivial rfl rfl rfl rfl ?_
      refine G.nil ?_
      refine C.condF rfl ?_
      refine C.exit ?_
      refine C.seq ?_
      refine C.region ?_
      have hSh := top_sh hTs (.some (book_src W0 b22 hbk0))
      have hTh := top_sh hTt (.some (sheet_src W0 bs hSh))
      obtain ⟨Rb, hRb⟩ : ∃ R, R = bookR noPages 0 := ⟨_, rfl⟩
      rw [← hRb] at hSh hTh
      refine G.moveP rfl trivial rfl rfl rfl ?_
      refine G.call E16 rfl rfl trivial rfl rfl (FnS.perm (schanges_spec W0 bt [] hTh) TA) rfl ?_
      rintro e L2 ⟨ac, cc, s3, s4, hi78, rfl, rfl⟩
      obtain ⟨ims, hmi, hcp, hon, rfl⟩ := hi78
      obtain ⟨az, cz, haz, hrd⟩ := hon.form
      simp only [Value.slice.injEq] at haz
      obtain ⟨rfl, hln, rfl⟩ := haz
      rw [hln]
      have hrg := ims_rg hTt.size hmi
      have hle : ims.length ≤ 96 := by rw [← hln]; exact chL_le _ _
      refine G.less (L' := s3 :: ims.map imB :: hT :: hS :: bookSeg b22 noPages 0 :: []) (fun _ h => h.of_flat (by simp)) ?_
      refine G.assignS rfl trivial rfl rfl rfl ?_
      refine G.nil ?_
      refine C.seq ?_
      refine C.seq ?_
      refine C.region ?_
      refine G.assignI rfl trivial rfl rfl rfl ?_
      refine G.nil ?_
      refine C.block ?_
      refine C.loop (fun m F D' L' => ∃ (i : Nat) (hS2 : Seg), m = ims.length - i + 0 ∧ i ≤ ims.length ∧ TopIs bs (.iface 25 (ptr b22)) (updG some mS ((ims.map imP).take i)) hS2 ∧ F 6 = ptr b22 ∧ F 7 = ptr bs ∧ F 9 = ptr bt ∧ F 11 = .slice ac ims.length cc ∧ F 12 = .int .i64 (i : Int) ∧ D' = [] ∧ s3 :: ims.map imB :: hT :: hS2 :: bookSeg b22 noPages 0 :: [] = L') ⟨_, ⟨0, hS, rfl, Nat.zero_le _, hTs, rfl, rfl, rfl, rfl, rfl, rfl, rfl⟩⟩ ?_
      rintro m F D' L' ⟨i, hS2, rfl, hi, hTs2, h6, h7, h9, h11, h12, rfl, rfl⟩
      refine C.fix (d := 6) h6 ?_
      refine C.fix (d := 7) h7 ?_
      refine C.fix (d := 9) h9 ?_
      refine C.fix (d := 11) h11 ?_
      refine C.fix (d := 12) h12 ?_
      refine C.seq ?_
      refine C.seq ?_
      refine C.region ?_
      refine G.moveI rfl trivial rfl rfl rfl ?_
      refine G.moveS rfl trivial rfl rfl rfl ?_
      refine G.lenSlice rfl trivial rfl rfl Try.underlying38 rfl ?_
      refine G.bin rfl trivial rfl rfl rfl rfl rfl ?_
      refine G.nil ?_
      refine C.cond _ rfl ?_ ?_
      · intro hc3
        have hlt : i < ims.length := by omega
        obtain ⟨p, o, rfl, _⟩ := (hrd W0 []).some_ (by rw [chunk_length (k := 2) (fun _ _ => rfl)]; omega)
        have hce := fun w hm => Rd.chunkL (k := 2) (hrd W0 []) (fun _ _ => rfl) hlt w hm
        have hb1 : ∀ L, Rd W0 (ims.map imB :: L) (some ⟨ims[i].2.1, 0, none⟩) (bytesV ims[i].2.2.2.2) := fun L => ims_rd (List.getElem_mem hlt)
        obtain ⟨hrr, hrl⟩ := hrg _ (List.getElem_mem hlt)
        have hut := updG_take (some : List UInt8 → Option (List UInt8)) mS (l := ims.map imP) (i := i) (by simpa using hlt)
        rw [show (ims.map imP)[i]'(by simpa using hlt) = imP ims[i] by simp] at hut
        generalize ims[i] = e1 at hce hb1 hrr hrl hut
        obtain ⟨n1, b1, r1, k1, x1⟩ := e1
        simp only [imP] at hb1 hrr hrl hut
        refine C.skip ?_
        refine C.seq ?_
        refine C.block ?_
        refine C.seq ?_
        refine C.drawn mixed ([s3]) [] (fun _ h => h.fewer (by simp)) ?_
        refine GA.pure (i := 0) (fun _ _ _ _ _ h => h) rfl (by kernel_rfl) trivial rfl rfl (Y.moveP rfl rfl) (#[true, false, false, false, false, false, false, false, false, false, false, false, false]) (by kernel_rfl) ?_
        refine GA.pure (i := 1) (fun _ _ _ _ _ h => h) rfl (by kernel_rfl) trivial rfl rfl (Y.moveS rfl rfl) (#[true, true, false, false, false, false, false, false, false, false, false, false, false]) (by kernel_rfl) ?_
        refine GA.pure (i := 2) (fun _ _ _ _ _ h => h) rfl (by kernel_rfl) trivial rfl rfl (Y.moveI rfl rfl) (#[true, true, true, false, false, false, false, false, false, false, false, false, false]) (by kernel_rfl) ?_
        refine GA.pure (i := 3) (fun _ _ _ _ _ h => h) rfl (by kernel_rfl) trivial rfl rfl (Y.indexAddr rfl Try.underlying38 I40 rfl rfl (by omega)) (#[true, true, true, true, false, false, false, false, false, false, false, false, false]) (by kernel_rfl) ?_
        refine GA.pure (i := 4) (fun _ _ _ _ _ h => h) rfl (by kernel_rfl) trivial rfl rfl (Y.fieldAddr rfl Try.underlying40 rfl I3 rfl rfl) (#[true, true, true, true, true, false, false, false, false, false, false, false, false]) (by kernel_rfl) ?_
        refine GA.read (i := 5) (fun _ _ _ _ _ h => h) rfl (by kernel_rfl) (by kernel_rfl) trivial rfl rfl (Y.load rfl Try.underlying3 rfl rfl (fun w hm => hce w hm 0 _ rfl)) (#[true, true, true, true, true, true, false, false, false, false, false, false, false]) (by kernel_rfl) ?_
        refine GA.fix (d := 90) (v := .int .i64 n1) rfl ?_
        refine GA.pure (i := 6) (fun _ _ _ _ _ h => h) rfl (by kernel_rfl) trivial rfl rfl (Y.moveS rfl rfl) (#[true, true, true, true, true, true, true, false, false, false, false, false, false]) (by kernel_rfl) ?_
        refine GA.pure (i := 7) (fun _ _ _ _ _ h => h) rfl (by kernel_rfl) trivial rfl rfl (Y.moveI rfl rfl) (#[true, true, true, true, true, true, true, true, false, false, false, false, false]) (by kernel_rfl) ?_
        refine GA.pure (i := 8) (fun _ _ _ _ _ h => h) rfl (by kernel_rfl) trivial rfl rfl (Y.indexAddr rfl Try.underlying38 I40 rfl rfl (by omega)) (#[true, true, true, true, true, true, true, true, true, false, false, false, false]) (by kernel_rfl) ?_
        refine GA.pure (i := 9) (fun _ _ _ _ _ h => h) rfl (by kernel_rfl) trivial rfl rfl (Y.fieldAddr rfl Try.underlying40 rfl I22 rfl rfl) (#[true, true, true, true, true, true, true, true, true, true, false, false, false]) (by kernel_rfl) ?_
        refine GA.read (i := 10) (fun _ _ _ _ _ h => h) rfl (by kernel_rfl) (by kernel_rfl) trivial rfl rfl (Y.load rfl Try.underlying22 rfl rfl (fun w hm => hce w hm 1 _ rfl)) (#[true, true, true, true, true, true, true, true, true, true, true, false, false]) (by kernel_rfl) ?_
        refine GA.fix (d := 95) (v := .slice (some ⟨b1, 0, none⟩) x1.length r1) rfl ?_
        refine GA.one (i := 11) rfl (by kernel_rfl) (#[true, true, true, true, true, true, true, true, true, true, true, true, false]) (by kernel_rfl) ?_
        refine G.call E12 rfl rfl trivial rfl rfl (FnS.perm (tset_ok W0 bs _ _ _ hS2 hTs2 n1 hrr (some ⟨b1, 0, none⟩) r1 x1 hrl (hb1 _).cons) PX) rfl ?_
        rintro e L2 ⟨hS3, hTs3, rfl, rfl⟩
        refine G.less (L' := s3 :: ims.map imB :: hT :: hS3 :: bookSeg b22 noPages 0 :: []) (fun _ h => h.of_flat PX.symm) ?_
        refine G.nil ?_
        refine ⟨fun _ _ h => h.fewer (by simp), ?_⟩
        refine GA.pure (i := 12) (fun _ _ _ _ _ h => h) rfl (by kernel_rfl) trivial rfl rfl (Y.bin rfl rfl rfl rfl) (#[true, true, true, true, true, true, true, true, true, true, true, true, true]) (by kernel_rfl) ?_
        refine GA.done (by kernel_rfl) ?_
        refine C.no rfl (by simp) ?_
        refine C.skip ?_
        refine C.region ?_
        refine G.moveI rfl trivial rfl rfl rfl ?_
        refine G.addN (j := 1) rfl trivial rfl rfl rfl rfl (by omega) ?_
        refine G.assignI rfl trivial rfl rfl rfl ?_
        refine G.nil ?_
        exact ⟨ims.length - (i + 1) + 0, by omega, i + 1, hS3, rfl, by omega, by rw [hut]; exact hTs3, rfl, rfl, rfl, rfl, rfl, rfl, rfl⟩
      · intro hc3
        rw [List.take_of_length_le (by simp; omega)] at hTs2
        obtain ⟨mS2, hmS2⟩ : ∃ g, g = updG some mS (ims.map imP) := ⟨_, rfl⟩
        rw [← hmS2] at hTs2
        rw [hmi] at hmS2
        have hSh2 := top_sh hTs2 (.some (book_src W0 b22 hbk0))
        have hTh2 := top_sh hTt (.some (sheet_src W0 bs hSh2))
        rw [← hRb] at hSh2 hTh2
        have hnil := (two_law mT mS mS2 Rb _ hmS2 rfl).1
        refine C.exit ?_
        refine C.seq ?_
        refine C.seq ?_
        refine C.region ?_
        refine G.moveP rfl trivial rfl rfl rfl ?_
        refine G.call E16 rfl rfl trivial rfl rfl (FnS.perm (schanges_val W0 bt _ hTh2 [] hnil 0 rfl) PY) rfl ?_
        rintro e L2 ⟨a99, c99, s5, s6, hi99, rfl, rfl⟩
        refine G.less (L' := s3 :: ims.map imB :: hT :: hS2 :: bookSeg b22 noPages 0 :: []) (fun _ h => h.tail.tail.of_flat PY.symm) ?_
        refine G.lenSlice rfl trivial rfl rfl Try.underlying38 rfl ?_
        refine G.bin rfl trivial rfl rfl rfl rfl rfl ?_
        refine G.nil ?_
        refine C.no rfl (by simp) ?_
        refine C.skip ?_
        refine C.seq ?_
        refine C.region ?_
        refine G.moveP rfl trivial rfl rfl rfl ?_
        refine G.moveP rfl trivial rfl rfl rfl ?_
        refine G.call E16 rfl rfl trivial rfl rfl (FnS.perm (schanges_spec W0 bs _ hSh2) PZ) rfl ?_
        rintro e L2 ⟨ac2, cc2, s7, s8, hi104, rfl, rfl⟩
        obtain ⟨ims2, hmi2, hcp2, hon2, rfl⟩ := hi104
        obtain ⟨az2, cz2, haz2, hrd2⟩ := hon2.form
        simp only [Value.slice.injEq] at haz2
        obtain ⟨rfl, hln2, rfl⟩ := haz2
        have hrg2 := ims_rg hTs2.size hmi2
        have hle2 : (chL mS2 Rb).length ≤ 96 := chL_le _ _
        refine G.less (L' := bookSeg b22 noPages 0 :: s7 :: ims2.map imB :: hS2 :: s3 :: ims.map imB :: hT :: []) (fun _ h => mem_lay h) ?_
        refine G.call E19 rfl rfl trivial rfl rfl (lay_spec W0 b22 _ ac2 cc2 _ ims2 hln2.symm (by omega) (hrd2 W0 _) (fun e he => (ims_rd he).cons) hrg2 noPages hbk0) rfl ?_
        rintro e L2 ⟨ps2, hbk2, hR2, rfl, rfl⟩
        rw [← hRb, hmi2] at hR2
        refine G.less (L' := s3 :: ims.map imB :: hT :: hS2 :: bookSeg b22 ps2 0 :: []) (fun _ h => mem_laid h) ?_
        have hSh3 := top_sh hTs2 (.some (book_src W0 b22 hbk2))
        have hTh3 := top_sh hTt (.some (sheet_src W0 bs hSh3))
        have hall := (two_law mT mS mS2 Rb _ hmS2 hR2).2
        refine G.nil ?_
        refine C.seq ?_
        refine C.seq ?_
        refine C.region ?_
        refine G.assignI rfl trivial rfl rfl rfl ?_
        refine G.nil ?_
        refine C.block ?_
        refine C.loop (fun m F D' L' => ∃ (k : Nat), m = 96 - k + 0 ∧ k ≤ 96 ∧ F 6 = ptr b22 ∧ F 9 = ptr bt ∧ F 11 = .slice ac ims.length cc ∧ F 13 = .int .i64 (k : Int) ∧ D' = [] ∧ s3 :: ims.map imB :: hT :: hS2 :: bookSeg b22 ps2 0 :: [] = L') ⟨_, ⟨0, rfl, Nat.zero_le _, rfl, rfl, rfl, rfl, rfl, rfl⟩⟩ ?_
        rintro m F D' L' ⟨k, rfl, hk, h6, h9, h11, h13, rfl, rfl⟩
        refine C.fix (d := 6) h6 ?_
        refine C.fix (d := 9) h9 ?_
        refine C.fix (d := 11) h11 ?_
        refine C.fix (d := 13) h13 ?_
        refine C.seq ?_
        refine C.seq ?_
        refine C.region ?_
        refine G.moveI rfl trivial rfl rfl rfl ?_
        refine G.bin rfl trivial rfl rfl rfl rfl rfl ?_
        refine G.nil ?_
        refine C.cond _ rfl ?_ ?_
        · intro hc6
          have hk96 : k < 96 := by omega
          have hz : ansC (bookR ps2 0 (k : Int)) = 0 := ansC_ok (book_ok (by omega))
          have hpk := FnS.perm (spage_any W0 bt (s3 :: ims.map imB :: []) hTh3 (k : Int) (by omega)) (PY (x := s3) (y := ims.map imB) (t := hT) (s := hS2) (b := bookSeg b22 ps2 0) (L := []))
          rw [hall (k : Int) (by omega)] at hpk
          refine C.skip ?_
          refine C.seq ?_
          refine C.block ?_
          refine C.seq ?_
          refine C.region ?_
          refine G.moveP rfl trivial rfl rfl rfl ?_
          refine G.moveI rfl trivial rfl rfl rfl ?_
          refine G.call E13 rfl rfl trivial rfl rfl hpk rfl ?_
          rintro e L2 ⟨a14, c14, so1, hr14, rfl, rfl⟩
          refine G.moveU rfl trivial rfl rfl rfl ?_
          refine G.extractL rfl trivial rfl rfl rfl rfl ?_
          refine G.extractL rfl trivial rfl rfl rfl rfl ?_
          refine G.assignS rfl trivial rfl rfl rfl ?_
          refine G.assignI rfl trivial rfl rfl rfl ?_
          refine G.nil ?_
          refine C.seq ?_
          refine C.region ?_
          refine G.moveP rfl trivial rfl rfl rfl ?_
          refine G.moveI rfl trivial rfl rfl rfl ?_
          refine G.call E14 rfl rfl trivial rfl rfl (FnS.perm (inner_any W0 bs _ hSh3 (book_src W0 b22 hbk2) (k : Int) (by omega)) PW) rfl ?_
          rintro e L2 ⟨a16, c16, so2, hr16, rfl, rfl⟩
          refine G.moveU rfl trivial rfl rfl rfl ?_
          refine G.extractL rfl trivial rfl rfl rfl rfl ?_
          refine G.extractL rfl trivial rfl rfl rfl rfl ?_
          refine G.assignS rfl trivial rfl rfl rfl ?_
          refine G.assignI rfl trivial rfl rfl rfl ?_
          refine G.nil ?_
          refine C.seq ?_
          refine C.region ?_
          refine G.moveI rfl trivial rfl rfl rfl ?_
          refine G.bin rfl trivial rfl rfl rfl rfl rfl ?_
          refine G.moveB rfl trivial rfl rfl rfl ?_
          refine G.no (t := 124) rfl (fun h => h hz) ?_
          refine G.moveI rfl ⟨_, rfl, rfl, rfl⟩ rfl rfl rfl ?_
          refine G.bin rfl ⟨_, rfl, rfl, rfl⟩ rfl rfl rfl rfl rfl ?_
          first | refine G.pickT rfl trivial rfl rfl rfl rfl ?_ | refine G.pickF rfl trivial rfl rfl rfl rfl ?_
          refine G.moveB rfl trivial rfl rfl rfl ?_
          refine G.no (t := 128) rfl (fun h => h hz) ?_
          refine G.moveS rfl ⟨_, rfl, rfl, rfl⟩ rfl rfl rfl ?_
          refine G.bytesStr (ansB (bookR ps2 0 (k : Int))) rfl ⟨_, rfl, rfl, rfl⟩ rfl rfl Try.underlying22 Try.underlying5 Try.underlying9 rfl rfl ((hr14 _ _).cons.cons) ?_
          refine G.moveS rfl ⟨_, rfl, rfl, rfl⟩ rfl rfl rfl ?_
          refine G.bytesStr (ansB (bookR ps2 0 (k : Int))) rfl ⟨_, rfl, rfl, rfl⟩ rfl rfl Try.underlying22 Try.underlying5 Try.underlying9 rfl rfl (hr16 _ _) ?_
          refine G.strNe rfl ⟨_, rfl, rfl, rfl⟩ rfl rfl  rfl rfl ?_
          first | refine G.pickT rfl trivial rfl rfl rfl rfl ?_ | refine G.pickF rfl trivial rfl rfl rfl rfl ?_
          refine G.nil ?_
          refine C.no rfl (by simp) ?_
          refine C.skip ?_
          refine C.region ?_
          refine G.moveI rfl trivial rfl rfl rfl ?_
          refine G.addN (j := 1) rfl trivial rfl rfl rfl rfl (by omega) ?_
          refine G.assignI rfl trivial rfl rfl rfl ?_
          refine G.less (L' := s3 :: ims.map imB :: hT :: hS2 :: bookSeg b22 ps2 0 :: []) (fun _ h => mem_round h) ?_
          refine G.nil ?_
          exact ⟨96 - (k + 1) + 0, by omega, k + 1, rfl, by omega, rfl, rfl, rfl, rfl, rfl, rfl⟩
        · intro hc6
          refine C.exit ?_
          refine C.seq ?_
          refine C.region ?_
          refine G.moveS rfl trivial rfl rfl rfl ?_
          refine G.call E20 rfl rfl trivial rfl rfl (may_spec W0 _ ac cc _ ims rfl hle (hrd W0 _) hrg (by rw [hmi]; exact chK_up _ _ 96)) rfl ?_
          rintro e L2 ⟨rfl, rfl⟩
          by_cases hone : 1 ≤ ims.length
          ·
            refine G.moveB rfl trivial rfl rfl rfl ?_
            refine G.yes (t := 137) rfl (hone) ?_
            refine G.skip rfl rfl rfl rfl rfl rfl ?_
            refine G.skip rfl rfl rfl rfl rfl rfl ?_
            refine G.skip rfl rfl rfl rfl rfl rfl ?_
            first | refine G.pickT rfl trivial rfl rfl rfl rfl ?_ | refine G.pickF rfl trivial rfl rfl rfl rfl ?_
            refine G.assignB rfl trivial rfl rfl rfl ?_
            refine G.nil ?_
            refine C.ret ?_
            -- end g30Fg57Fc3Fc6Fx137T
            exact ⟨rfl, _, Res.of (rs := [.tmp 4]) rfl rfl, rfl⟩
          ·
            refine G.moveB rfl trivial rfl rfl rfl ?_
            refine G.no (t := 137) rfl (hone) ?_
            refine G.moveS rfl ⟨_, rfl, rfl, rfl⟩ rfl rfl rfl ?_
            refine G.lenSlice rfl ⟨_, rfl, rfl, rfl⟩ rfl rfl Try.underlying38 rfl ?_
            refine G.bin rfl ⟨_, rfl, rfl, rfl⟩ rfl rfl rfl rfl rfl ?_
            first | refine G.pickT rfl trivial rfl rfl rfl rfl ?_ | refine G.pickF rfl trivial rfl rfl rfl rfl ?_
            refine G.assignB rfl trivial rfl rfl rfl ?_
            refine G.nil ?_
            refine C.ret ?_
            -- end g30Fg57Fc3Fc6Fx137F
            exact ⟨rfl, _, Res.of (rs := [.tmp 4]) rfl rfl, by show Ending.returned (Value.bool (decide _)) = _; rw [decide_eq_true (by omega)]⟩
end laws
end Sht
end Go.Proofs.Ytgfdghhojnmaoaa
