/-
  Sheets: SheetBack, SheetOwn walked.
-/
import Derived.Test.YtgfdghhojnmaoaaSh4
namespace Go.Proofs.Ytgfdghhojnmaoaa
namespace Sht
open Go Go.SL Go.RowKit

theorem memNone {W0 w : World} {L : List Seg} (h : Mem W0 w L) : Mem W0 w [] := h.fewer (by simp)
theorem bpool_app (a b : List (Option Bpg)) : bpool (a ++ b) = bpool a ++ bpool b := by simp [bpool]
theorem set_mid {α : Type} (a : List α) (x y : α) (b : List α) : (a ++ x :: b).set a.length y = a ++ y :: b := by simp
theorem book_caps {ps : List (Option Bpg)} (h : ∀ e, some e ∈ ps → e.2.2.2.length ≤ e.2.1 ∧ e.2.1 ≤ e.2.2.1 ∧ e.2.2.2.length ≤ 1000000) (i : Nat) {x : Bpg} (hx : x.2.2.2.length ≤ x.2.1 ∧ x.2.1 ≤ x.2.2.1 ∧ x.2.2.2.length ≤ 1000000) : ∀ e, some e ∈ ps.set i (some x) → e.2.2.2.length ≤ e.2.1 ∧ e.2.1 ≤ e.2.2.1 ∧ e.2.2.2.length ≤ 1000000 := by
  intro e he
  rcases List.mem_or_eq_of_mem_set he with h1 | h1
  · exact h e h1
  · rw [Option.some.inj h1]; exact hx
abbrev bookSeg (bb : Nat) (ps : List (Option Bpg)) (bad : Int) : Seg := (bb, .row (ps.map bslot ++ [.int .i64 bad]) 28 97) :: bpool ps
/-- a page put into the book -/
theorem book_put {W0 w : World} {L : List Seg} {bb : Nat} {ps : List (Option Bpg)} {bad : Int} (hl : ps.length = 96) {i : Nat} (hi : i < 96) (e : Bpg)
    (h : Mem W0 w ([bblk e] :: ((bb, .row ((ps.map bslot ++ [Value.int .i64 bad]).set i (bslot (some e))) 28 97) :: bpool ps) :: L)) : Mem W0 w (bookSeg bb (ps.set i (some e)) bad :: L) := by
  have hrow : (ps.map bslot ++ [Value.int .i64 bad]).set i (bslot (some e)) = (ps.set i (some e)).map bslot ++ [.int .i64 bad] := by
    rw [List.set_append_left _ _ (by simp; omega), List.map_set]
  rw [hrow] at h
  unfold bookSeg
  have hlt : i < ps.length := by omega
  have hps : ps = ps.take i ++ ps[i] :: ps.drop (i + 1) := by simp
  have hset : ps.set i (some e) = ps.take i ++ some e :: ps.drop (i + 1) := by
    conv => lhs; rw [hps]
    have := set_mid (ps.take i) ps[i] (some e) (ps.drop (i + 1))
    rw [List.length_take, Nat.min_eq_left (by omega)] at this
    exact this
  have hp1 : bpool (ps.set i (some e)) = bpool (ps.take i) ++ bblk e :: bpool (ps.drop (i + 1)) := by rw [hset, bpool_app]; rfl
  have hp0 : ∃ m : Seg, bpool ps = bpool (ps.take i) ++ (m ++ bpool (ps.drop (i + 1))) := by
    cases ho : ps[i] with
    | none => rw [ho] at hps; exact ⟨[], by have h3 := congrArg bpool hps; rw [bpool_app] at h3; exact h3⟩
    | some y => rw [ho] at hps; exact ⟨[bblk y], by have h3 := congrArg bpool hps; rw [bpool_app] at h3; exact h3⟩
  obtain ⟨m, hm⟩ := hp0
  rw [hm] at h
  rw [hp1]
  generalize bpool (ps.take i) = A at h ⊢
  generalize bpool (ps.drop (i + 1)) = B at h ⊢
  generalize (bb, SObj.row ((ps.set i (some e)).map bslot ++ [Value.int .i64 bad]) 28 97) = r at h ⊢
  have h2 : Mem W0 w ([bblk e] :: (r :: (A ++ B)) :: L) := h.fewer (by
    simp only [List.flatten_cons, List.cons_append, List.append_assoc, List.nil_append]
    exact List.Sublist.cons_cons _ (List.Sublist.cons_cons _ (List.Sublist.append_left (List.sublist_append_right m _) A)))
  exact h2.of_flat (by
    simp only [List.flatten_cons, List.cons_append, List.append_assoc, List.nil_append]
    exact (List.perm_middle (l₁ := r :: A) (a := bblk e) (l₂ := B ++ L.flatten)).symm)
theorem book_set_R {ps : List (Option Bpg)} {bad : Int} (hl : ps.length = 96) {i : Nat} (hi : i < 96) (e : Bpg) (no : Int) : bookR (ps.set i (some e)) bad no = if no = (i : Int) ∧ ¬ (bad ≠ 0 ∧ no = bad) then .ok e.2.2.2 else bookR ps bad no := by
  unfold bookR
  by_cases h1 : no < 0 ∨ 95 < no
  · rw [if_pos h1, if_pos h1, if_neg (by omega)]
  · rw [if_neg h1, if_neg h1]
    by_cases h2 : bad ≠ 0 ∧ no = bad
    · rw [if_pos h2, if_pos h2, if_neg (fun h => h.2 h2)]
    · rw [if_neg h2, if_neg h2]
      have hlt : no.toNat < ps.length := by omega
      by_cases h3 : no = (i : Int)
      · rw [if_pos ⟨h3, h2⟩]
        subst h3
        rw [getElem!_pos (ps.set i (some e)) ((i : Int).toNat) (by simp; omega)]
        simp
      · rw [if_neg (fun h => h3 h.1)]
        rw [getElem!_pos (ps.set i (some e)) no.toNat (by simpa using hlt), getElem!_pos ps no.toNat hlt]
        rw [List.getElem_set_ne (by omega)]
theorem ofB_inj {x y : UInt8} : ofB [x] = ofB [y] ↔ x = y := ⟨fun h => by
  have h1 := ofB_head x []
  rw [h, ofB_head y []] at h1
  exact (Option.some.inj h1).symm, fun h => by rw [h]⟩
theorem u8_eq {x y : UInt8} : ((x.toNat : Int) = (y.toNat : Int)) ↔ x = y := ⟨fun h => UInt8.toNat_inj.1 (by omega), fun h => by rw [h]⟩
abbrev psB (no : Nat) (bp : Nat) (x : UInt8) : List (Option Bpg) := noPages.set no (some (bp, 256, 256, ofB [x]))
theorem psB_is (bb no bp : Nat) (x : UInt8) : BookIs bb (psB no bp x) 0 (bookSeg bb (psB no bp x) 0) := ⟨by rw [List.length_set, noPages_length], book_caps (book_new bb 0).2.1 _ ⟨by rw [ofB_length]; exact Nat.le_refl _, Nat.le_refl _, by rw [ofB_length]; decide⟩, rfl⟩
theorem psB_R {no : Nat} (h : no < 96) (bp : Nat) (x : UInt8) : bookR (psB no bp x) 0 (no : Int) = .ok (ofB [x]) := by
  rw [book_set_R noPages_length h, if_pos ⟨rfl, by simp⟩]
theorem mem_psB {W0 w : World} {L : List Seg} {bb no bp : Nat} {x : UInt8} (hno : no < 96) (h : Mem W0 w ([(bp, .row (bytesV (ofB [x])) 5 256)] :: [(bb, .row ((List.replicate 96 nilS ++ [Value.int .i64 0]).set no (.slice (some ⟨bp, 0, none⟩) 256 256)) 28 97)] :: L)) : Mem W0 w (bookSeg bb (psB no bp x) 0 :: L) := by
  refine book_put (ps := noPages) (bad := 0) noPages_length hno (bp, 256, 256, ofB [x]) ?_
  rw [noPages_slots, noPages_pool]
  unfold bslot bblk
  simp only [ofB_length]
  exact h
section laws
variable (W0 : World)
theorem back_out (no : Int) (x y : UInt8) (h : no < 0 ∨ 95 < no) : FnS Try.prog W0 6 #[.int .i64 no, .int .u8 (x.toNat : Int), .int .u8 (y.toNat : Int)] [] (fun e _ => e = .returned (.bool true)) := by
  refine FnS.of (args := [.int .i64 no, .int .u8 (x.toNat : Int), .int .u8 (y.toNat : Int)]) Try.func6 rfl rfl ?_
  refine C.seq ?_
  refine C.region ?_
  refine G.assignB rfl trivial rfl rfl rfl ?_
  refine G.nil ?_
  refine C.seq ?_
  refine C.region ?_
  refine G.call E9 rfl rfl trivial rfl rfl (sbegun_spec W0 _) rfl ?_
  rintro e L2 ⟨rfl, rfl⟩
  refine G.assignB rfl trivial rfl rfl rfl ?_
  refine G.nil ?_
  refine C.seq ?_
  refine C.seq ?_
  refine C.region ?_
  refine G.moveB rfl trivial rfl rfl rfl ?_
  first | refine G.notD rfl trivial rfl rfl rfl ?_ | refine G.not rfl trivial rfl rfl rfl ?_
  refine G.nil ?_
  refine C.condF rfl ?_
  refine C.skip ?_
  refine C.seq ?_
  refine C.seq ?_
  refine C.region ?_
  refine G.moveI rfl trivial rfl rfl rfl ?_
  refine G.bin rfl trivial rfl rfl rfl rfl rfl ?_
  refine G.moveB rfl trivial rfl rfl rfl ?_
  refine G.fork (t := 16) _ rfl ?_ ?_
  · intro hg16
    refine G.skip rfl rfl rfl rfl rfl rfl ?_
    refine G.skip rfl rfl rfl rfl rfl rfl ?_
    first | refine G.pickT rfl trivial rfl rfl rfl rfl ?_ | refine G.pickF rfl trivial rfl rfl rfl rfl ?_
    refine G.nil ?_
    refine C.condT rfl ?_
    refine C.seq ?_
    refine C.region ?_
    refine G.assignB rfl trivial rfl rfl rfl ?_
    refine G.nil ?_
    refine C.ret ?_
    -- end g16T
    exact ⟨rfl, _, Res.of (rs := [.tmp 6]) rfl rfl, rfl⟩
  · intro hg16
    refine G.moveI rfl ⟨_, rfl, rfl, rfl⟩ rfl rfl rfl ?_
    refine G.bin rfl ⟨_, rfl, rfl, rfl⟩ rfl rfl rfl rfl rfl ?_
    first | refine G.pickT rfl trivial rfl rfl rfl rfl ?_ | refine G.pickF rfl trivial rfl rfl rfl rfl ?_
    refine G.nil ?_
    refine C.yes rfl (by omega) ?_
    refine C.seq ?_
    refine C.region ?_
    refine G.assignB rfl trivial rfl rfl rfl ?_
    refine G.nil ?_
    refine C.ret ?_
    -- end g16F
    exact ⟨rfl, _, Res.of (rs := [.tmp 6]) rfl rfl, rfl⟩
theorem back_in (no : Nat) (x y : UInt8) (h : no < 96) : FnS Try.prog W0 6 #[.int .i64 no, .int .u8 (x.toNat : Int), .int .u8 (y.toNat : Int)] [] (fun e _ => e = .returned (.bool true)) := by
  have hno96 : no < 96 := h
  have hch : ∀ (bp : Nat) (n : Nat) (l : List (Int × List UInt8)), (if x = y then [] else [((no : Int), ofB [y])]) = l → chL (setM (fun _ => none) (no : Int) (ofB [y])) (bookR (psB no bp x) 0) = l := by
    intro bp n l hl
    subst hl
    have hoth : ∀ j : Nat, j < 96 → j ≠ no → chg1 (setM (fun _ => none) (no : Int) (ofB [y])) (bookR (psB no bp x) 0) (j : Int) = none := fun j _ hj => chg1_none (by unfold setM; rw [if_neg (by omega)])
    by_cases hxy : x = y
    · subst hxy
      rw [if_pos rfl]
      refine chL_nil fun j hj => ?_
      by_cases e : j = no
      · subst e; exact chg1_same (by simp [setM]) (psB_R h bp x)
      · exact hoth j hj e
    · rw [if_neg hxy]
      exact chL_one h (chg1_set (by simp [setM]) (psB_R h bp x) (fun e => hxy (ofB_inj.1 e))) hoth
  have hch2 : ∀ (bp : Nat), chL (setM (setM (fun _ => none) (no : Int) (ofB [y])) (no : Int) (ofB [x])) (bookR (psB no bp x) 0) = [] := fun bp => chL_nil fun j hj => by
    by_cases e : j = no
    · subst e; exact chg1_same (by simp [setM]) (psB_R h bp x)
    · exact chg1_none (by unfold setM; rw [if_neg (by omega), if_neg (by omega)])
  refine FnS.of (args := [.int .i64 (no : Int), .int .u8 (x.toNat : Int), .int .u8 (y.toNat : Int)]) Try.func6 rfl rfl ?_
  refine C.seq ?_
  refine C.region ?_
  refine G.assignB rfl trivial rfl rfl rfl ?_
  refine G.nil ?_
  refine C.seq ?_
  refine C.region ?_
  refine G.call E9 rfl rfl trivial rfl rfl (sbegun_spec W0 _) rfl ?_
  rintro e L2 ⟨rfl, rfl⟩
  refine G.assignB rfl trivial rfl rfl rfl ?_
  refine G.nil ?_
  refine C.seq ?_
  refine C.seq ?_
  refine C.region ?_
  refine G.moveB rfl trivial rfl rfl rfl ?_
  first | refine G.notD rfl trivial rfl rfl rfl ?_ | refine G.not rfl trivial rfl rfl rfl ?_
  refine G.nil ?_
  refine C.condF rfl ?_
  refine C.skip ?_
  refine C.seq ?_
  refine C.seq ?_
  refine C.region ?_
  refine G.moveI rfl trivial rfl rfl rfl ?_
  refine G.bin rfl trivial rfl rfl rfl rfl rfl ?_
  refine G.moveB rfl trivial rfl rfl rfl ?_
  refine G.no (t := 16) rfl (by omega) ?_
  refine G.moveI rfl ⟨_, rfl, rfl, rfl⟩ rfl rfl rfl ?_
  refine G.bin rfl ⟨_, rfl, rfl, rfl⟩ rfl rfl rfl rfl rfl ?_
  first | refine G.pickT rfl trivial rfl rfl rfl rfl ?_ | refine G.pickF rfl trivial rfl rfl rfl rfl ?_
  refine G.nil ?_
  refine C.no rfl (by omega) ?_
  refine C.skip ?_
  refine C.seq ?_
  refine C.region ?_
  refine G.buildL (cs := List.replicate 96 nilS ++ [.int .i64 0]) rfl trivial rfl rfl Try.underlying28 I28 B28 rfl rfl ?_
  refine G.boxG rfl trivial rfl rfl rfl ?_
  intro b21
  refine G.assignP rfl trivial rfl rfl rfl ?_
  refine G.nil ?_
  refine C.seq ?_
  refine C.drawn mixed ([]) [] (fun _ h => memNone h) ?_
  refine GA.pure (i := 0) (fun _ _ _ _ _ h => h) rfl (by kernel_rfl) trivial rfl rfl (Y.moveP rfl rfl) (#[true, false, false, false, false, false, false, false, false]) (by kernel_rfl) ?_
  refine GA.pure (i := 1) (fun _ _ _ _ _ h => h) rfl (by kernel_rfl) trivial rfl rfl (Y.moveI rfl rfl) (#[true, true, false, false, false, false, false, false, false]) (by kernel_rfl) ?_
  refine GA.pure (i := 2) (fun _ _ _ _ _ h => h) rfl (by kernel_rfl) trivial rfl rfl (Y.moveI rfl rfl) (#[true, true, true, false, false, false, false, false, false]) (by kernel_rfl) ?_
  first | refine GA.pure (i := 5) (fun _ _ _ _ _ h => h) rfl (by kernel_rfl) trivial rfl rfl (Y.nilCheckP rfl rfl) (#[true, true, true, false, false, true, false, false, false]) (by kernel_rfl) ?_ | refine GA.pure (i := 5) (fun _ _ _ _ _ h => h) rfl (by kernel_rfl) trivial rfl rfl (Y.nilCheckF rfl rfl) (#[true, true, true, false, false, true, false, false, false]) (by kernel_rfl) ?_
  refine GA.pure (i := 6) (fun _ _ _ _ _ h => h) rfl (by kernel_rfl) trivial rfl rfl (Y.fieldAddr rfl Try.underlying28 rfl I26 rfl rfl) (#[true, true, true, false, false, true, true, false, false]) (by kernel_rfl) ?_
  refine GA.one (i := 3) rfl (by kernel_rfl) (#[true, true, true, true, false, true, true, false, false]) (by kernel_rfl) ?_
  refine G.buildSliceL (cs := [.int .u8 (x.toNat : Int)]) (zs := [(.int .u8 0)]) rfl trivial rfl rfl Try.underlying22 I5 rfl (by kernel_rfl) rfl rfl ?_
  intro b25
  refine G.nil ?_
  refine ⟨fun _ _ h => memNone h, ?_⟩
  refine GA.one (i := 4) rfl (by kernel_rfl) (#[true, true, true, true, true, true, true, false, false]) (by kernel_rfl) ?_
  refine G.call E10 rfl rfl trivial rfl rfl (of_spec W0 _ (some ⟨b25, 0, none⟩) 1 [x] (fun s => Rd.row0 (.next .here))) rfl ?_
  rintro e L2 ⟨bp, rfl, rfl⟩
  refine G.nil ?_
  refine ⟨fun _ _ h => memNone h, ?_⟩
  refine GA.pure (i := 7) (fun _ _ _ _ _ h => h) rfl (by kernel_rfl) trivial rfl rfl (Y.indexAddrArr rfl Try.underlying26 I22 rfl rfl (by omega)) (#[true, true, true, true, true, true, true, true, false]) (by kernel_rfl) ?_
  refine GA.one (i := 8) rfl (by kernel_rfl) (#[true, true, true, true, true, true, true, true, true]) (by kernel_rfl) ?_
  refine G.store (v := .slice (some ⟨bp, 0, none⟩) 256 256) (.next (.next .here)) rfl trivial rfl I22 rfl rfl rfl (by simp; omega) _ rfl ?_
  refine G.less (L' := bookSeg b21 (psB no bp x) 0 :: []) (fun _ h => mem_psB hno96 (by have h2 := h.skip1; simpa using h2)) ?_
  refine G.nil ?_
  refine ⟨fun _ _ h => memNone h, ?_⟩
  refine GA.done (by kernel_rfl) ?_
  refine C.seq ?_
  refine C.region ?_
  refine G.moveP rfl trivial rfl rfl rfl ?_
  refine G.makeInterface rfl trivial rfl rfl Try.underlying25 rfl ?_
  refine G.call E11 rfl rfl trivial rfl rfl (snew_spec W0 [] (.iface 25 (ptr b21)) _ _ (.some (book_src W0 b21 (psB_is b21 no bp x)))) rfl ?_
  rintro e L2 ⟨bs, s1, h1, rfl, rfl⟩
  refine G.assignP rfl trivial rfl rfl rfl ?_
  refine G.nil ?_
  refine C.seq ?_
  refine C.region ?_
  refine G.moveP rfl trivial rfl rfl rfl ?_
  refine G.moveI rfl trivial rfl rfl rfl ?_
  refine G.moveI rfl trivial rfl rfl rfl ?_
  refine G.buildSliceL (cs := [.int .u8 (y.toNat : Int)]) (zs := [(.int .u8 0)]) rfl trivial rfl rfl Try.underlying22 I5 rfl (by kernel_rfl) rfl rfl ?_
  intro b36
  refine G.call E10 rfl rfl trivial rfl rfl (of_spec W0 _ (some ⟨b36, 0, none⟩) 1 [y] (fun s => Rd.row0 (.next .here))) rfl ?_
  rintro e L2 ⟨bq, rfl, rfl⟩
  refine G.call E12 rfl rfl trivial rfl rfl (FnS.perm (sset_in W0 bs ([(bq, .row (bytesV (ofB [y])) 5 256)] :: [(b36, .row [.int .u8 (y.toNat : Int)] 5 1)] :: []) h1 (no : Int) (by omega) (some ⟨bq, 0, none⟩) 256 (ofB [y]) (ofB_length _) (Rd.row0 .here)) P3) rfl ?_
  rintro e L2 ⟨s2, h2, rfl, rfl⟩
  refine G.less (L' := s2 :: []) (fun _ h => h.fewer (by simp)) ?_
  refine G.nil ?_
  refine C.seq ?_
  refine C.region ?_
  refine G.moveP rfl trivial rfl rfl rfl ?_
  refine G.call E16 rfl rfl trivial rfl rfl (schanges_val W0 bs [] h2 _ (hch bp 0 _ rfl) (if x = y then 0 else 1) (by split <;> rfl)) rfl ?_
  rintro e L2 ⟨a40, c40, s3, s4, hi40, rfl, rfl⟩
  refine G.less (L' := s2 :: []) (fun _ h => h.fewer (by simp)) ?_
  refine G.lenSlice rfl trivial rfl rfl Try.underlying38 rfl ?_
  refine G.assignI rfl trivial rfl rfl rfl ?_
  refine G.nil ?_
  refine C.seq ?_
  refine C.region ?_
  refine G.moveP rfl trivial rfl rfl rfl ?_
  refine G.moveI rfl trivial rfl rfl rfl ?_
  refine G.moveI rfl trivial rfl rfl rfl ?_
  refine G.buildSliceL (cs := [.int .u8 (x.toNat : Int)]) (zs := [(.int .u8 0)]) rfl trivial rfl rfl Try.underlying22 I5 rfl (by kernel_rfl) rfl rfl ?_
  intro b45
  refine G.call E10 rfl rfl trivial rfl rfl (of_spec W0 _ (some ⟨b45, 0, none⟩) 1 [x] (fun s => Rd.row0 (.next .here))) rfl ?_
  rintro e L2 ⟨bz, rfl, rfl⟩
  refine G.call E12 rfl rfl trivial rfl rfl (FnS.perm (sset_in W0 bs ([(bz, .row (bytesV (ofB [x])) 5 256)] :: [(b45, .row [.int .u8 (x.toNat : Int)] 5 1)] :: []) h2 (no : Int) (by omega) (some ⟨bz, 0, none⟩) 256 (ofB [x]) (ofB_length _) (Rd.row0 .here)) P3) rfl ?_
  rintro e L2 ⟨s5, h5, rfl, rfl⟩
  refine G.less (L' := s5 :: []) (fun _ h => h.fewer (by simp)) ?_
  refine G.nil ?_
  refine C.seq ?_
  refine C.region ?_
  refine G.moveI rfl trivial rfl rfl rfl ?_
  refine G.bin rfl trivial rfl rfl rfl rfl rfl ?_
  refine G.moveI rfl trivial rfl rfl rfl ?_
  refine G.moveI rfl trivial rfl rfl rfl ?_
  refine G.bin rfl trivial rfl rfl rfl rfl rfl ?_
  refine G.boolEq rfl trivial rfl rfl Try.underlying4 rfl rfl ?_
  refine G.fix (d := 53) (v := .bool true) (by show Value.bool _ = _; by_cases hxy : x = y <;> simp [hxy, u8_eq]) ?_
  refine G.moveB rfl trivial rfl rfl rfl ?_
  refine G.moveP rfl ⟨_, rfl, rfl, rfl⟩ rfl rfl rfl ?_
  refine G.call E16 rfl rfl ⟨_, rfl, rfl, rfl⟩ rfl rfl (schanges_val W0 bs [] h5 [] (hch2 bp) 0 rfl) rfl ?_
  rintro e L2 ⟨a56, c56, s6, s7, hi56, rfl, rfl⟩
  refine G.lenSlice rfl ⟨_, rfl, rfl, rfl⟩ rfl rfl Try.underlying38 rfl ?_
  refine G.bin rfl ⟨_, rfl, rfl, rfl⟩ rfl rfl rfl rfl rfl ?_
  first | refine G.pickT rfl trivial rfl rfl rfl rfl ?_ | refine G.pickF rfl trivial rfl rfl rfl rfl ?_
  refine G.assignB rfl trivial rfl rfl rfl ?_
  refine G.nil ?_
  refine C.ret ?_
  -- end 
  exact ⟨rfl, _, Res.of (rs := [.tmp 6]) rfl rfl, rfl⟩
end laws
end Sht
end Go.Proofs.Ytgfdghhojnmaoaa
