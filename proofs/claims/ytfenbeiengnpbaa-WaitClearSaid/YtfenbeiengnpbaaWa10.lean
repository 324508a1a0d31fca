/-
  Waits: WaitClear walked.
-/
import Derived.Test.YtfenbeiengnpbaaWa9
namespace Go.Proofs.Ytfenbeiengnpbaa
open Go Go.SL Go.RowKit Go.Sort

theorem WtIs.upto {bw N M : Nat} {g : Int → List Int} {s1 s2 s3 : Seg} (h : WtIs bw g N s1 s2 s3) (hN : N ≤ M) : WtIs bw g M s1 s2 s3 := by
  obtain ⟨bm, en, ck, h1, h2, h3, h4, h5, h6, h7⟩ := h
  exact ⟨bm, en, ck, h1, h2, h3, h4, h5, by omega, h7⟩
/-- what each was told to wait for, in a row of slices -/
def Was (W0 : World) (g : Int → List Int) (n : Nat) (vs : List Value) (pw : Seg) : Prop :=
  vs.length = 8 ∧ ∀ j, j < n → ∃ a c, vs[j]? = some (.slice a (g (j : Int)).length c) ∧ ∀ L, Rd W0 (pw :: L) a ((g (j : Int)).map (Value.int .i64))
theorem Was.put {W0 : World} {g : Int → List Int} {n : Nat} {vs : List Value} {pw so : Seg} (h : Was W0 g n vs pw) (hn : n < 8) {a : Option Addr} {c : Nat} (hr : ∀ L, Rd W0 (so :: L) a ((g (n : Int)).map (Value.int .i64))) : Was W0 g (n + 1) (vs.set n (.slice a (g (n : Int)).length c)) (so ++ pw) := by
  refine ⟨by simpa using h.1, fun j hj => ?_⟩
  by_cases e : j = n
  · subst e
    exact ⟨a, c, by rw [List.getElem?_set_self (by rw [h.1]; exact hn)], fun L => (hr L).sub (by simp only [List.flatten_cons, List.append_assoc]; exact List.Sublist.append_left (List.sublist_append_right _ _) _)⟩
  · obtain ⟨a2, c2, h1, h2⟩ := h.2 j (by omega)
    exact ⟨a2, c2, by rw [List.getElem?_set_ne (fun h => e h.symm), h1], fun L => (h2 L).sub (by simp only [List.flatten_cons, List.append_assoc]; exact List.sublist_append_right _ _)⟩
theorem Was.get {W0 : World} {g : Int → List Int} {vs : List Value} {pw : Seg} (h : Was W0 g 8 vs pw) {j : Nat} (hj : j < 8) : ∃ a c, vs[0 + (j : Int).toNat * 1]? = some (.slice a (g (j : Int)).length c) ∧ ∀ L, Rd W0 (pw :: L) a ((g (j : Int)).map (Value.int .i64)) := by
  have := h.2 j hj
  simpa using this
/-- what is wanted so far -/
def wantL (gone : Int) (t : Nat) (l : List Int) : List Int := if (t : Int) = gone then [] else without gone l
theorem wantL_nil (gone : Int) (t : Nat) : wantL gone t [] = [] := by unfold wantL; split <;> rfl
theorem wantL_le (gone : Int) (t : Nat) (l : List Int) : (wantL gone t l).length ≤ l.length := by
  unfold wantL
  split
  · simp
  · exact without_le gone l
theorem wantL_all (g : Int → List Int) (gone : Int) (t : Nat) : clearG g gone (t : Int) = wantL gone t (g (t : Int)) := rfl
section laws
variable (W0 : World)
theorem wclear_walk (a : Option Addr) (len cap : Nat) (ops : List WOp) (gone : Int) (h : WOps W0 a len cap ops) : FnS Try.prog W0 7 #[.slice a len cap, .int .i64 gone] [] (fun e _ => e = .returned (.bool true)) := by
  obtain ⟨rfl, hlc, hcap, hr, hwf⟩ := h
  have hmax : maxLen ≤ 9223372036854775807 := by decide
  refine FnS.of (args := [.slice a ops.length cap, .int .i64 gone]) Try.func7 rfl rfl ?_
  refine C.seq ?_
  refine C.region ?_
  refine G.assignB rfl trivial rfl rfl rfl ?_
  refine G.nil ?_
  refine C.seq ?_
  refine C.region ?_
  refine G.call E8 rfl rfl trivial rfl rfl (wbegun_spec W0 _) rfl ?_
  rintro e L2 ⟨rfl, rfl⟩
  refine G.assignB rfl trivial rfl rfl rfl ?_
  refine G.nil ?_
  refine C.seq ?_
  refine C.seq ?_
  refine C.region ?_
  refine G.moveB rfl trivial rfl rfl rfl ?_
  first | refine G.notD rfl trivial rfl rfl rfl ?_ | refine G.not rfl trivial rfl rfl rfl ?_
  refine G.nil ?_
  refine C.condF rfl ?_
  refine C.skip ?_
  refine C.seq ?_
  refine C.region ?_
  refine G.call E9 rfl rfl trivial rfl rfl (wnew_spec W0 []) rfl ?_
  rintro e L2 ⟨bw, s1, s2, s3, h1, rfl, rfl⟩
  refine G.assignP rfl trivial rfl rfl rfl ?_
  refine G.nil ?_
  refine C.seq ?_
  refine C.seq ?_
  refine C.region ?_
  refine G.assignI rfl trivial rfl rfl rfl ?_
  refine G.nil ?_
  refine C.post (fun F D' L' => ∃ (g : Int → List Int) (s1 s2 s3 : Seg), WtIs bw g 30 s1 s2 s3 ∧ F 1 = .int .i64 gone ∧ F 6 = .pointer (some ⟨bw, 0, none⟩) ∧ D' = [] ∧ s1 :: s2 :: s3 :: [] = L') ?_ ?_
  ·
    refine C.block ?_
    refine C.loop (fun m F D' L' => ∃ (i : Nat) (g : Int → List Int) (s1 s2 s3 : Seg), m = ops.length - i + 0 ∧ i ≤ ops.length ∧ i ≤ 30 ∧ WtIs bw g i s1 s2 s3 ∧ F 0 = .slice a ops.length cap ∧ F 1 = .int .i64 gone ∧ F 6 = .pointer (some ⟨bw, 0, none⟩) ∧ F 7 = .int .i64 (i : Int) ∧ D' = [] ∧ s1 :: s2 :: s3 :: [] = L') ⟨_, ⟨0, g0, s1, s2, s3, rfl, by omega, by omega, h1, rfl, rfl, rfl, rfl, rfl, rfl⟩⟩ ?_
    rintro m F D' L' ⟨i, g, s1, s2, s3, rfl, hi, hi30, hw, h0, h1', h6, h7, rfl, rfl⟩
    refine C.fix (d := 0) h0 ?_
    refine C.fix (d := 1) h1' ?_
    refine C.fix (d := 6) h6 ?_
    refine C.fix (d := 7) h7 ?_
    refine C.seq ?_
    refine C.seq ?_
    refine C.region ?_
    refine G.moveI rfl trivial rfl rfl rfl ?_
    refine G.moveS rfl trivial rfl rfl rfl ?_
    refine G.lenSlice rfl trivial rfl rfl Try.underlying22 rfl ?_
    refine G.bin rfl trivial rfl rfl rfl rfl rfl ?_
    refine G.moveB rfl trivial rfl rfl rfl ?_
    refine G.fork (t := 22) _ rfl ?_ ?_
    · intro hg22
      refine G.moveI rfl ⟨_, rfl, rfl, rfl⟩ rfl rfl rfl ?_
      refine G.bin rfl ⟨_, rfl, rfl, rfl⟩ rfl rfl rfl rfl rfl ?_
      first | refine G.pickT rfl trivial rfl rfl rfl rfl ?_ | refine G.pickF rfl trivial rfl rfl rfl rfl ?_
      refine G.nil ?_
      refine C.cond _ rfl ?_ ?_
      · intro hc1
        have hlt : i < ops.length := by first | assumption | omega
        obtain ⟨p, o, rfl, _⟩ := (hr []).some_ (by rw [chunk_length (k := 3) (fun _ _ => rfl)]; omega)
        obtain ⟨hoc, hom, hor⟩ := hwf _ (List.getElem_mem hlt)
        have hcell := fun L w hm => cellW (L := L) hr hlt w hm
        generalize ops[i] = op at hoc hom hor hcell
        obtain ⟨kd, tx, oa, oc, l⟩ := op
        simp only at hoc hom hor
        refine C.skip ?_
        refine C.seq ?_
        refine C.block ?_
        refine C.seq ?_
        refine C.region ?_
        refine G.moveS rfl trivial rfl rfl rfl ?_
        refine G.moveI rfl trivial rfl rfl rfl ?_
        refine G.indexAddr rfl trivial rfl rfl Try.underlying22 I32 rfl rfl (by omega) ?_
        refine G.fieldAddr rfl trivial rfl rfl Try.underlying32 rfl I30 rfl rfl ?_
        refine G.load rfl trivial rfl rfl Try.underlying30 rfl rfl (fun w hm => hcell _ w hm 2 _ rfl) ?_
        refine G.assignS rfl trivial rfl rfl rfl ?_
        refine G.fix (d := 8) (v := .slice oa l.length oc) rfl ?_
        refine G.nil ?_
        refine C.cut (fun F D' L' => ∃ (xs : List Int), xs.length ≤ 5 ∧ (∀ L, Rd W0 L oa (xs.map (Value.int .i64))) ∧ F 0 = .slice (some ⟨p, o, none⟩) ops.length cap ∧ F 1 = .int .i64 gone ∧ F 6 = .pointer (some ⟨bw, 0, none⟩) ∧ F 7 = .int .i64 (i : Int) ∧ F 8 = .slice oa xs.length oc ∧ D' = [] ∧ s1 :: s2 :: s3 :: [] = L') ?_ ?_
        ·
          refine C.seq ?_
          refine C.region ?_
          refine G.moveS rfl trivial rfl rfl rfl ?_
          refine G.lenSlice rfl trivial rfl rfl Try.underlying30 rfl ?_
          refine G.bin rfl trivial rfl rfl rfl rfl rfl ?_
          refine G.nil ?_
          refine C.cond _ rfl ?_ ?_
          · intro hc2
            refine C.region ?_
            refine G.moveS rfl trivial rfl rfl rfl ?_
            refine G.sliceH rfl trivial rfl rfl Try.underlying30 I2 rfl rfl (by omega) ?_
            refine G.assignS rfl trivial rfl rfl rfl ?_
            refine G.nil ?_
            exact ⟨l.take 5, (by rw [List.length_take]; exact Nat.min_le_left _ _), fun L => by rw [List.map_take]; exact (hor L).take, rfl, rfl, rfl, rfl, by rw [List.length_take, Nat.min_eq_left (by omega)]; rfl, rfl, rfl⟩
          · intro hc2
            refine C.skip ?_
            exact ⟨l, by omega, hor, rfl, rfl, rfl, rfl, rfl, rfl, rfl⟩
        ·
          rintro F D' L' ⟨xs, hxs, hxr, h0, h1', h6, h7, h8, rfl, rfl⟩
          refine C.fix (d := 0) h0 ?_
          refine C.fix (d := 1) h1' ?_
          refine C.fix (d := 6) h6 ?_
          refine C.fix (d := 7) h7 ?_
          refine C.fix (d := 8) h8 ?_
          refine C.region ?_
          refine G.moveP rfl trivial rfl rfl rfl ?_
          refine G.moveS rfl trivial rfl rfl rfl ?_
          refine G.moveI rfl trivial rfl rfl rfl ?_
          refine G.indexAddr rfl trivial rfl rfl Try.underlying22 I32 rfl rfl (by omega) ?_
          refine G.fieldAddr rfl trivial rfl rfl Try.underlying32 rfl I2 rfl rfl ?_
          refine G.load rfl trivial rfl rfl Try.underlying2 rfl rfl (fun w hm => hcell _ w hm 1 _ rfl) ?_
          refine G.bin rfl trivial rfl rfl rfl rfl rfl ?_
          refine G.low (d := 44) 7 (by decide) ⟨_, rfl⟩ ?_
          intro j44 hj44
          refine G.moveS rfl trivial rfl rfl rfl ?_
          refine G.call E10 rfl rfl trivial rfl rfl (set_spec W0 [] bw g i s1 s2 s3 hw (by omega) (j44 : Int) oa oc xs (by omega) (hxr _)) rfl ?_
          rintro e L2 ⟨bb, g2, s4, s5, s6, hb2, hw2, rfl, rfl⟩
          refine G.nil ?_
          refine C.region ?_
          refine G.moveI rfl trivial rfl rfl rfl ?_
          refine G.addN (j := 1) rfl trivial rfl rfl rfl rfl (by omega) ?_
          refine G.assignI rfl trivial rfl rfl rfl ?_
          refine G.nil ?_
          exact ⟨ops.length - (i + 1) + 0, by omega, i + 1, g2, s4, s5, s6, rfl, by omega, by omega, hw2, rfl, rfl, rfl, rfl, rfl, rfl⟩
      · intro hc1
        refine C.exit ?_
        exact ⟨g, s1, s2, s3, hw.upto (by omega), rfl, rfl, rfl, rfl⟩
    · intro hg22
      refine G.skip rfl rfl rfl rfl rfl rfl ?_
      refine G.skip rfl rfl rfl rfl rfl rfl ?_
      first | refine G.pickT rfl trivial rfl rfl rfl rfl ?_ | refine G.pickF rfl trivial rfl rfl rfl rfl ?_
      refine G.nil ?_
      refine C.condF rfl ?_
      refine C.exit ?_
      exact ⟨g, s1, s2, s3, hw.upto (by omega), rfl, rfl, rfl, rfl⟩
  ·
    rintro F D' L' ⟨g, s1, s2, s3, hw, h1', h6, rfl, rfl⟩
    refine C.fix (d := 1) h1' ?_
    refine C.fix (d := 6) h6 ?_
    refine C.seq ?_
    refine C.region ?_
    refine G.allocC (cs := [(.slice none 0 0), (.slice none 0 0), (.slice none 0 0), (.slice none 0 0), (.slice none 0 0), (.slice none 0 0), (.slice none 0 0), (.slice none 0 0)]) rfl trivial rfl rfl I39 rfl ?_
    intro b9
    refine G.nil ?_
    refine C.seq ?_
    refine C.seq ?_
    refine C.region ?_
    refine G.assignI rfl trivial rfl rfl rfl ?_
    refine G.less (L' := [(b9, .row (List.replicate 8 (.slice none 0 0)) 39 8)] :: [] :: s1 :: s2 :: s3 :: []) (fun _ h => h.of_flat (by simp [List.replicate])) ?_
    refine G.nil ?_
    refine C.block ?_
    refine C.loop (fun m F D' L' => ∃ (t : Nat) (vs : List Value) (pw : Seg), m = 8 - t + 0 ∧ t ≤ 8 ∧ Was W0 g t vs pw ∧ F 1 = .int .i64 gone ∧ F 6 = .pointer (some ⟨bw, 0, none⟩) ∧ F 9 = .pointer (some ⟨b9, 0, none⟩) ∧ F 10 = .int .i64 (t : Int) ∧ D' = [] ∧ [(b9, .row vs 39 8)] :: pw :: s1 :: s2 :: s3 :: [] = L') ⟨_, ⟨0, List.replicate 8 (.slice none 0 0), [], rfl, by omega, ⟨rfl, fun j hj => absurd hj (by omega)⟩, rfl, rfl, rfl, rfl, rfl, rfl⟩⟩ ?_
    rintro m F D' L' ⟨t, vs, pw, rfl, ht, hwas, h1', h6, h9, h10, rfl, rfl⟩
    refine C.fix (d := 1) h1' ?_
    refine C.fix (d := 6) h6 ?_
    refine C.fix (d := 9) h9 ?_
    refine C.fix (d := 10) h10 ?_
    refine C.seq ?_
    refine C.seq ?_
    refine C.region ?_
    refine G.moveI rfl trivial rfl rfl rfl ?_
    refine G.bin rfl trivial rfl rfl rfl rfl rfl ?_
    refine G.nil ?_
    refine C.cond _ rfl ?_ ?_
    · intro hc3
      refine C.skip ?_
      refine C.seq ?_
      refine C.block ?_
      refine C.region ?_
      refine G.moveI rfl trivial rfl rfl rfl ?_
      refine G.moveP rfl trivial rfl rfl rfl ?_
      refine G.moveI rfl trivial rfl rfl rfl ?_
      refine G.call E17 rfl rfl trivial rfl rfl (FnS.perm (on_val W0 ([(b9, .row vs 39 8)] :: pw :: []) bw g 30 s1 s2 s3 hw (by omega) (t : Int) (g (t : Int)) rfl) P23) rfl ?_
      rintro e L2 ⟨a54, c54, s54, hv54, rfl, rfl⟩
      have hlt8 : t < vs.length := by rw [hwas.1]; omega
      refine G.indexAddrArr rfl trivial rfl rfl Try.underlying39 I30 rfl rfl (by omega) ?_
      refine G.store (v := .slice _ _ _) (by first | exact .here | exact .next .here | exact .next (.next .here) | exact .next (.next (.next .here)) | exact .next (.next (.next (.next .here))) | exact .next (.next (.next (.next (.next .here)))) | exact .next (.next (.next (.next (.next (.next .here))))) | exact .next (.next (.next (.next (.next (.next (.next .here)))))) | exact .in1 | exact .next .in1 | exact .next (.next .in1) | exact .next (.next (.next .in1)) | exact .next (.next (.next (.next .in1))) | exact .in2 | exact .next .in2 | exact .next (.next .in2) | exact .next (.next (.next .in2)) | exact .next (.next (.next (.next .in2))) | exact .app .here | exact .app (.next .here) | exact .app (.next (.next .here)) | exact .app (.next (.next (.next .here))) | exact .app (.next (.next (.next (.next .here)))) | exact .app (.next (.next (.next (.next (.next .here))))) | exact .app (.next (.next (.next (.next (.next (.next .here)))))) | exact .app (.next (.next (.next (.next (.next (.next (.next .here))))))) | exact .app .in1 | exact .app .in2 | exact .app (.next .in1) | exact .next (.app .in1) | exact .next (.next (.app .in1)) | exact .next (.app .here) | exact .next (.next (.app .here)) | exact .next (.next (.next (.app .here))) | exact .next (.next (.next (.next (.app .here))))) rfl trivial rfl I30 rfl rfl rfl (by first | decide | (simp; done) | (simp; omega)) _ (by first | (simp only [List.set_cons_succ, List.set_cons_zero]; done) | (simp only [List.set_cons_succ, List.set_cons_zero]; exact rfl) | exact rfl) ?_
      refine G.nil ?_
      refine C.region ?_
      refine G.moveI rfl trivial rfl rfl rfl ?_
      refine G.addN (j := 1) rfl trivial rfl rfl rfl rfl (by omega) ?_
      refine G.assignI rfl trivial rfl rfl rfl ?_
      refine G.less (L' := [(b9, .row (vs.set t (.slice a54 (g (t : Int)).length c54)) 39 8)] :: (s54 ++ pw) :: s1 :: s2 :: s3 :: []) (fun _ h => by have h2 := ((h.up5.up6.up3).join).perm2; simpa using h2) ?_
      refine G.nil ?_
      exact ⟨8 - (t + 1) + 0, by omega, t + 1, _, _, rfl, by omega, hwas.put (by omega) (fun L => by obtain ⟨az2, cz2, hae, hrd⟩ := hv54.form; cases hae; exact hrd W0 L), rfl, rfl, rfl, rfl, rfl, rfl⟩
    · intro hc3
      obtain rfl : t = 8 := by omega
      refine C.exit ?_
      refine C.seq ?_
      refine C.region ?_
      refine G.moveI rfl trivial rfl rfl rfl ?_
      refine G.bin rfl trivial rfl rfl rfl rfl rfl ?_
      refine G.low (d := 57) 7 (by decide) ⟨_, rfl⟩ ?_
      intro jg hjg
      refine G.assignI rfl trivial rfl rfl rfl ?_
      refine G.nil ?_
      refine C.seq ?_
      refine C.region ?_
      refine G.moveP rfl trivial rfl rfl rfl ?_
      refine G.moveI rfl trivial rfl rfl rfl ?_
      refine G.call E12 rfl rfl trivial rfl rfl (FnS.perm (clear_spec W0 ([(b9, .row vs 39 8)] :: pw :: []) bw g 30 s1 s2 s3 hw (jg : Int)) P23) rfl ?_
      rintro e L2 ⟨s4, s5, s6, hw2, rfl, rfl⟩
      refine G.nil ?_
      refine C.seq ?_
      refine C.seq ?_
      refine C.region ?_
      refine G.assignI rfl trivial rfl rfl rfl ?_
      refine G.nil ?_
      refine C.block ?_
      refine C.loop (fun m F D' L' => ∃ (t : Nat), m = 8 - t + 0 ∧ t ≤ 8 ∧ F 1 = .int .i64 (jg : Int) ∧ F 6 = .pointer (some ⟨bw, 0, none⟩) ∧ F 9 = .pointer (some ⟨b9, 0, none⟩) ∧ F 11 = .int .i64 (t : Int) ∧ D' = [] ∧ s4 :: s5 :: s6 :: [(b9, .row vs 39 8)] :: pw :: [] = L') ⟨_, ⟨0, rfl, by omega, rfl, rfl, rfl, rfl, rfl, rfl⟩⟩ ?_
      rintro m F D' L' ⟨t, rfl, ht, h1', h6, h9, h11, rfl, rfl⟩
      refine C.fix (d := 1) h1' ?_
      refine C.fix (d := 6) h6 ?_
      refine C.fix (d := 9) h9 ?_
      refine C.fix (d := 11) h11 ?_
      refine C.seq ?_
      refine C.seq ?_
      refine C.region ?_
      refine G.moveI rfl trivial rfl rfl rfl ?_
      refine G.bin rfl trivial rfl rfl rfl rfl rfl ?_
      refine G.nil ?_
      refine C.cond _ rfl ?_ ?_
      · intro hc4
        have ht8 : t < 8 := by omega
        obtain ⟨aw, cw, hcw, hrw⟩ := hwas.get ht8
        have hgl := WtIs.lens hw (t : Int)
        refine C.skip ?_
        refine C.seq ?_
        refine C.block ?_
        refine C.seq ?_
        refine C.region ?_
        refine G.assignS rfl trivial rfl rfl rfl ?_
        refine G.nil ?_
        refine C.seq ?_
        refine C.seq ?_
        refine C.region ?_
        refine G.assignI rfl trivial rfl rfl rfl ?_
        refine G.less (fun _ h => h.empty) ?_
        refine G.nil ?_
        refine C.post (fun F D' L' => ∃ (az : Option Addr) (cz : Nat) (sz : Seg), OwnS (.slice az (wantL jg t (g (t : Int))).length cz) (wantL jg t (g (t : Int))).length ((wantL jg t (g (t : Int))).map (Value.int .i64)) 2 1 sz ∧ F 1 = .int .i64 (jg : Int) ∧ F 6 = .pointer (some ⟨bw, 0, none⟩) ∧ F 9 = .pointer (some ⟨b9, 0, none⟩) ∧ F 11 = .int .i64 (t : Int) ∧ F 12 = .slice az (wantL jg t (g (t : Int))).length cz ∧ D' = [] ∧ sz :: s4 :: s5 :: s6 :: [(b9, .row vs 39 8)] :: pw :: [] = L') ?_ ?_
        ·
          refine C.block ?_
          refine C.loop (fun m F D' L' => ∃ (i : Nat) (az : Option Addr) (cz : Nat) (sz : Seg), m = (g (t : Int)).length - i + 0 ∧ i ≤ (g (t : Int)).length ∧ OwnS (.slice az (wantL jg t ((g (t : Int)).take i)).length cz) (wantL jg t ((g (t : Int)).take i)).length ((wantL jg t ((g (t : Int)).take i)).map (Value.int .i64)) 2 1 sz ∧ F 1 = .int .i64 (jg : Int) ∧ F 6 = .pointer (some ⟨bw, 0, none⟩) ∧ F 9 = .pointer (some ⟨b9, 0, none⟩) ∧ F 11 = .int .i64 (t : Int) ∧ F 12 = .slice az (wantL jg t ((g (t : Int)).take i)).length cz ∧ F 13 = .int .i64 (i : Int) ∧ D' = [] ∧ sz :: s4 :: s5 :: s6 :: [(b9, .row vs 39 8)] :: pw :: [] = L') ⟨_, ⟨0, none, 0, [], rfl, Nat.zero_le _, by rw [List.take_zero, wantL_nil]; exact OwnS.nil _ _, rfl, rfl, rfl, rfl, by rw [List.take_zero, wantL_nil]; rfl, rfl, rfl, rfl⟩⟩ ?_
          rintro m F D' L' ⟨i, az, cz, sz, rfl, hi, hzo, h1', h6, h9, h11, h12, h13, rfl, rfl⟩
          refine C.fix (d := 1) h1' ?_
          refine C.fix (d := 6) h6 ?_
          refine C.fix (d := 9) h9 ?_
          refine C.fix (d := 11) h11 ?_
          refine C.fix (d := 12) h12 ?_
          refine C.fix (d := 13) h13 ?_
          refine C.seq ?_
          refine C.seq ?_
          refine C.region ?_
          refine G.moveI rfl trivial rfl rfl rfl ?_
          refine G.moveI rfl trivial rfl rfl rfl ?_
          refine G.indexAddrArr rfl trivial rfl rfl Try.underlying39 I30 rfl rfl (by omega) ?_
          refine G.loadAt (.next (.next (.next (.next .here)))) rfl trivial rfl rfl Try.underlying30 rfl rfl hcw ?_
          refine G.lenSlice rfl trivial rfl rfl Try.underlying30 rfl ?_
          refine G.bin rfl trivial rfl rfl rfl rfl rfl ?_
          refine G.moveB rfl trivial rfl rfl rfl ?_
          refine G.fork (t := 71) _ rfl ?_ ?_
          · intro hg71
            refine G.moveI rfl ⟨_, rfl, rfl, rfl⟩ rfl rfl rfl ?_
            refine G.moveI rfl ⟨_, rfl, rfl, rfl⟩ rfl rfl rfl ?_
            refine G.bin rfl ⟨_, rfl, rfl, rfl⟩ rfl rfl rfl rfl rfl ?_
            first | refine G.pickT rfl trivial rfl rfl rfl rfl ?_ | refine G.pickF rfl trivial rfl rfl rfl rfl ?_
            refine G.nil ?_
            refine C.cond _ rfl ?_ ?_
            · intro hc5
              have hlt : i < (g (t : Int)).length := by have h := hg71; omega
              obtain ⟨p2, o2, haw, _⟩ := (hrw []).some_ (by simp; omega)
              subst haw
              have hwl := wantL_le jg t ((g (t : Int)).take i)
              rw [List.length_take] at hwl
              refine C.skip ?_
              refine C.seq ?_
              refine C.block ?_
              refine C.seq ?_
              refine C.region ?_
              refine G.moveI rfl trivial rfl rfl rfl ?_
              refine G.indexAddrArr rfl trivial rfl rfl Try.underlying39 I30 rfl rfl (by omega) ?_
              refine G.loadAt (.next (.next (.next (.next .here)))) rfl trivial rfl rfl Try.underlying30 rfl rfl hcw ?_
              refine G.moveI rfl trivial rfl rfl rfl ?_
              refine G.indexAddr rfl trivial rfl rfl Try.underlying30 I2 rfl rfl (by omega) ?_
              refine G.load rfl trivial rfl rfl Try.underlying2 rfl rfl (rd_at (hrw []).cons.cons.cons.cons.cons hlt) ?_
              refine G.moveI rfl trivial rfl rfl rfl ?_
              refine G.bin rfl trivial rfl rfl rfl rfl rfl ?_
              refine G.nil ?_
              refine C.cond _ rfl ?_ ?_
              · intro hc6
                refine C.region ?_
                refine G.moveS rfl trivial rfl rfl rfl ?_
                refine G.moveI rfl trivial rfl rfl rfl ?_
                refine G.indexAddrArr rfl trivial rfl rfl Try.underlying39 I30 rfl rfl (by omega) ?_
                refine G.loadAt (.next (.next (.next (.next .here)))) rfl trivial rfl rfl Try.underlying30 rfl rfl hcw ?_
                refine G.moveI rfl trivial rfl rfl rfl ?_
                refine G.indexAddr rfl trivial rfl rfl Try.underlying30 I2 rfl rfl (by omega) ?_
                refine G.load rfl trivial rfl rfl Try.underlying2 rfl rfl (rd_at (hrw []).cons.cons.cons.cons.cons hlt) ?_
                refine G.buildSliceL (cs := [.int .i64 (g (t : Int))[i]!]) (zs := [(.int .i64 0)]) rfl trivial rfl rfl Try.underlying30 I2 rfl (by kernel_rfl) rfl rfl ?_
                intro b93
                refine G.less (fun _ h => h.perm2) ?_
                refine G.append hzo rfl trivial rfl rfl Try.underlying30 Try.underlying30 I2 rfl (by decide) rfl rfl (by decide) (Rd.row0 (.next .here)) rfl (by simp [cellsOk]) (by omega) ?_
                intro v94 s94 hv94
                obtain ⟨a94, c94, rfl, _⟩ := hv94.form
                refine G.assignS rfl trivial rfl rfl rfl ?_
                refine G.nil ?_
                refine C.region ?_
                refine G.moveI rfl trivial rfl rfl rfl ?_
                refine G.addN (j := 1) rfl trivial rfl rfl rfl rfl (by omega) ?_
                refine G.assignI rfl trivial rfl rfl rfl ?_
                refine G.less (fun _ h => h.skip1) ?_
                refine G.nil ?_
                have e1 : wantL jg t ((g (t : Int)).take (i + 1)) = wantL jg t ((g (t : Int)).take i) ++ [(g (t : Int))[i]!] := by unfold wantL; rw [if_neg hc5, if_neg hc5, without_take hlt, if_neg hc6]
                exact ⟨(g (t : Int)).length - (i + 1) + 0, by omega, i + 1, a94, c94, s94, rfl, by omega, by rw [e1, List.length_append, List.map_append]; exact hv94, rfl, rfl, rfl, rfl, by rw [e1, List.length_append]; rfl, rfl, rfl, rfl⟩
              · intro hc6
                refine C.skip ?_
                refine C.region ?_
                refine G.moveI rfl trivial rfl rfl rfl ?_
                refine G.addN (j := 1) rfl trivial rfl rfl rfl rfl (by omega) ?_
                refine G.assignI rfl trivial rfl rfl rfl ?_
                refine G.nil ?_
                have e1 : wantL jg t ((g (t : Int)).take (i + 1)) = wantL jg t ((g (t : Int)).take i) := by unfold wantL; rw [if_neg hc5, if_neg hc5, without_take hlt, if_pos (Classical.not_not.1 hc6)]
                exact ⟨(g (t : Int)).length - (i + 1) + 0, by omega, i + 1, az, cz, sz, rfl, by omega, by rw [e1]; exact hzo, rfl, rfl, rfl, rfl, by rw [e1]; rfl, rfl, rfl, rfl⟩
            · intro hc5
              refine C.exit ?_
              have hfull : wantL jg t ((g (t : Int)).take i) = wantL jg t (g (t : Int)) := by
                first
                | (rw [List.take_of_length_le (by omega)])
                | (unfold wantL; rw [if_pos (Classical.not_not.1 hc5), if_pos (Classical.not_not.1 hc5)])
              rw [hfull] at hzo ⊢
              exact ⟨az, cz, sz, hzo, rfl, rfl, rfl, rfl, rfl, rfl, rfl⟩
          · intro hg71
            refine G.skip rfl rfl rfl rfl rfl rfl ?_
            refine G.skip rfl rfl rfl rfl rfl rfl ?_
            refine G.skip rfl rfl rfl rfl rfl rfl ?_
            first | refine G.pickT rfl trivial rfl rfl rfl rfl ?_ | refine G.pickF rfl trivial rfl rfl rfl rfl ?_
            refine G.nil ?_
            refine C.condF rfl ?_
            refine C.exit ?_
            have hfull : wantL jg t ((g (t : Int)).take i) = wantL jg t (g (t : Int)) := by
              first
              | (rw [List.take_of_length_le (by omega)])
              | (unfold wantL; rw [if_pos (Classical.not_not.1 hc5), if_pos (Classical.not_not.1 hc5)])
            rw [hfull] at hzo ⊢
            exact ⟨az, cz, sz, hzo, rfl, rfl, rfl, rfl, rfl, rfl, rfl⟩
        ·
          rintro F D' L' ⟨az, cz, sz, hzo, h1', h6, h9, h11, h12, rfl, rfl⟩
          refine C.fix (d := 1) h1' ?_
          refine C.fix (d := 6) h6 ?_
          refine C.fix (d := 9) h9 ?_
          refine C.fix (d := 11) h11 ?_
          refine C.fix (d := 12) h12 ?_
          refine C.seq ?_
          refine C.region ?_
          refine G.moveP rfl trivial rfl rfl rfl ?_
          refine G.moveI rfl trivial rfl rfl rfl ?_
          refine G.call E17 rfl rfl trivial rfl rfl (FnS.perm (on_val W0 _ bw (clearG g (jg : Int)) 30 s4 s5 s6 hw2 (by omega) (t : Int) (wantL jg t (g (t : Int))) rfl) P4.symm) rfl ?_
          rintro e L2 ⟨a97, c97, s97, hv97, rfl, rfl⟩
          have hwl := wantL_le jg t (g (t : Int))
          refine G.moveS rfl trivial rfl rfl rfl ?_
          refine G.call E16 rfl rfl trivial rfl rfl (eqNums_spec W0 _ a97 az c97 cz (wantL jg t (g (t : Int))) (wantL jg t (g (t : Int))) (by obtain ⟨az2, cz2, hae, hrd⟩ := hv97.form; cases hae; exact hrd W0 _) (by obtain ⟨az2, cz2, hae, hrd⟩ := hzo.form; cases hae; exact (hrd W0 _).cons.cons.cons.cons) (by omega) rfl) rfl ?_
          rintro e L2 ⟨rfl, rfl⟩
          first | refine G.notD rfl trivial rfl rfl rfl ?_ | refine G.not rfl trivial rfl rfl rfl ?_
          refine G.nil ?_
          refine C.condF rfl ?_
          refine C.skip ?_
          refine C.region ?_
          refine G.moveI rfl trivial rfl rfl rfl ?_
          refine G.addN (j := 1) rfl trivial rfl rfl rfl rfl (by omega) ?_
          refine G.assignI rfl trivial rfl rfl rfl ?_
          refine G.less (L' := s4 :: s5 :: s6 :: [(b9, .row vs 39 8)] :: pw :: []) (fun _ h => h.tail.fewer (by simp)) ?_
          refine G.nil ?_
          exact ⟨8 - (t + 1) + 0, by omega, t + 1, rfl, by omega, rfl, rfl, rfl, rfl, rfl, rfl⟩
      · intro hc4
        refine C.exit ?_
        refine C.seq ?_
        refine C.region ?_
        refine G.assignB rfl trivial rfl rfl rfl ?_
        refine G.nil ?_
        refine C.ret ?_
        -- end c3Fc4F
        exact ⟨rfl, _, Res.of (rs := [.tmp 4]) rfl rfl, rfl⟩
end laws
end Go.Proofs.Ytfenbeiengnpbaa
