/-
  Waits: Clear walked.
-/
import Derived.Test.YtomiidlbfcfpiaaWa3
namespace Go.Proofs.Ytomiidlbfcfpiaa
open Go Go.SL Go.RowKit Go.Sort

def clearG (g : Int → List Int) (t : Int) : Int → List Int := fun k => if k = t then [] else without t (g k)
/-- how many keys are still to come -/
def cnt (done : List Int) (ks : List Int) : Nat := (ks.filter fun k => !decide (k ∈ done)).length
theorem cnt_more {done ks : List Int} {k : Int} (hk : k ∈ ks) (hd : k ∉ done) : cnt (k :: done) ks < cnt done ks := by
  unfold cnt
  induction ks with
  | nil => cases hk
  | cons x xs ih =>
    have hle : (xs.filter fun y => !decide (y ∈ k :: done)).length ≤ (xs.filter fun y => !decide (y ∈ done)).length := by
      clear ih hk
      induction xs with
      | nil => simp
      | cons y ys ih =>
        by_cases h1 : y ∈ done
        · rw [List.filter_cons_of_neg (by simp [h1]), List.filter_cons_of_neg (by simp [h1])]; exact ih
        · rw [List.filter_cons_of_pos (l := ys) (p := fun y => !decide (y ∈ done)) (by simp [h1])]
          by_cases h2 : y = k
          · rw [List.filter_cons_of_neg (by simp [h2])]; simp only [List.length_cons]; omega
          · rw [List.filter_cons_of_pos (by simp [h1, h2])]; simp only [List.length_cons]; omega
    by_cases hx : x = k
    · subst hx
      rw [List.filter_cons_of_neg (by simp), List.filter_cons_of_pos (by simp [hd])]
      simp only [List.length_cons]; omega
    · have h3 : k ∈ xs := by rcases List.mem_cons.1 hk with h | h; exact absurd h.symm hx; exact h
      have h4 := ih h3
      by_cases h1 : x ∈ done
      · rw [List.filter_cons_of_neg (by simp [h1]), List.filter_cons_of_neg (by simp [h1])]; exact h4
      · rw [List.filter_cons_of_pos (by simp [h1, hx]), List.filter_cons_of_pos (by simp [h1])]
        simp only [List.length_cons]; omega
theorem cnt_sub {done ks ks' : List Int} (h : ks'.Sublist ks) : cnt done ks' ≤ cnt done ks := (h.filter _).length_le
theorem without_nil (t : Int) : without t [] = [] := rfl
theorem struck {pre post : List Went} {e : Went} (h1 : ∀ x ∈ pre, x.1 ≠ e.1) (h2 : ∀ x ∈ post, x.1 ≠ e.1) : (pre ++ e :: post).filter (fun x => !decide (x.1 = e.1)) = pre ++ post := by
  rw [List.filter_append, List.filter_cons_of_neg (by simp), List.filter_eq_self.2 (fun x hx => by simp [h1 x hx]), List.filter_eq_self.2 (fun x hx => by simp [h2 x hx])]
theorem sub_mid {α : Type} (pre post : List α) (e : α) : (pre ++ post).Sublist (pre ++ e :: post) := List.Sublist.append_left (List.sublist_cons_self e post) pre
theorem pool_sub3 {W0 w : World} {a b c : Seg} {L : List Seg} {en en' : List Went} (hs : en'.Sublist en) (h : Mem W0 w (a :: b :: c :: pool en :: L)) : Mem W0 w (a :: b :: c :: pool en' :: L) :=
  h.fewer (by simp only [List.flatten_cons]; exact (((List.Sublist.append_right (hs.map wb) _).append_left c).append_left b).append_left a)
/-- what holds while the map is gone through -/
structure Gone (g1 : Int → List Int) (t : Int) (en : List Went) (ck : Nat) (done : List Int) (seen : Array Nat) (N : Nat) : Prop where
  ok : Wok en ck
  seen_iff : ∀ e ∈ en, seen.contains e.2.2.1 = true ↔ e.1 ∈ done
  vals : ∀ k, gr en k = if k ∈ done then without t (g1 k) else g1 k
  le : en.length ≤ N
  lens : ∀ e ∈ en, e.2.1.length ≤ 1000
theorem Gone.row {g1 : Int → List Int} {t : Int} {en : List Went} {ck : Nat} {done : List Int} {seen : Array Nat} {N : Nat} (h : Gone g1 t en ck done seen N) {e : Went} (he : e ∈ en) (hs : seen.contains e.2.2.1 = false) : e.1 ∉ done ∧ g1 e.1 = e.2.1 := by
  have h1 : e.1 ∉ done := fun hd => by rw [(h.seen_iff e he).2 hd] at hs; cases hs
  refine ⟨h1, ?_⟩
  have h2 := h.vals e.1
  rw [if_neg h1, gr_mem h.ok.keys he] at h2
  exact h2.symm
theorem Gone.step {g1 : Int → List Int} {t : Int} {pre post : List Went} {e : Went} {ck : Nat} {done : List Int} {seen : Array Nat} {N : Nat} (h : Gone g1 t (pre ++ e :: post) ck done seen N) (hs : seen.contains e.2.2.1 = false)
    (hp1 : ∀ x ∈ pre, x.1 ≠ e.1) (hp2 : ∀ x ∈ post, x.1 ≠ e.1) (hp3 : ∀ x ∈ pre, x.2.2.1 ≠ e.2.2.1) (hp4 : ∀ x ∈ post, x.2.2.1 ≠ e.2.2.1) {b c k : Nat} (hne : without t e.2.1 ≠ []) (h1 : (without t e.2.1).length ≤ c) (h2 : c ≤ k) :
    Gone g1 t (pre ++ (e.1, without t e.2.1, e.2.2.1, b, c, k) :: post) ck (e.1 :: done) (seen.push e.2.2.1) N := by
  obtain ⟨hd, hrow⟩ := h.row (by simp) hs
  refine ⟨h.ok.mid rfl rfl ⟨hne, h1, h2⟩, ?_, ?_, ?_, ?_⟩
  · have key : ∀ x ∈ pre ++ e :: post, x.1 ≠ e.1 → x.2.2.1 ≠ e.2.2.1 → ((seen.push e.2.2.1).contains x.2.2.1 = true ↔ x.1 ∈ e.1 :: done) := by
      intro x hx h3 h4
      have h5 := h.seen_iff x hx
      rw [List.mem_cons]
      simp only [Array.contains_push, Bool.or_eq_true, beq_iff_eq, h4, h3, h5, or_false, false_or]
    intro x hx
    rcases List.mem_append.1 hx with hx | hx
    · exact key x (by simp [hx]) (hp1 x hx) (hp3 x hx)
    · rcases List.mem_cons.1 hx with rfl | hx
      · simp [Array.contains_push]
      · exact key x (by simp [hx]) (hp2 x hx) (hp4 x hx)
  · intro q
    rw [gr_mid (e := e) (e' := (e.1, without t e.2.1, e.2.2.1, b, c, k)) rfl hp1, h.vals q]
    by_cases hq : q = e.1
    · subst hq
      rw [if_pos rfl, if_pos (by simp), hrow]
    · rw [if_neg hq]
      have h6 : (q ∈ e.1 :: done) ↔ q ∈ done := by simp [hq]
      simp only [h6]
  · have := h.le; simpa using this
  · intro x hx
    rcases List.mem_append.1 hx with hx | hx
    · exact h.lens x (by simp [hx])
    · rcases List.mem_cons.1 hx with rfl | hx
      · have := h.lens e (by simp); have := without_le t e.2.1; simp only; omega
      · exact h.lens x (by simp [hx])
theorem Gone.drop {g1 : Int → List Int} {t : Int} {pre post : List Went} {e : Went} {ck : Nat} {done : List Int} {seen : Array Nat} {N : Nat} (h : Gone g1 t (pre ++ e :: post) ck done seen N) (hs : seen.contains e.2.2.1 = false)
    (hp1 : ∀ x ∈ pre, x.1 ≠ e.1) (hp2 : ∀ x ∈ post, x.1 ≠ e.1) (hp3 : ∀ x ∈ pre, x.2.2.1 ≠ e.2.2.1) (hp4 : ∀ x ∈ post, x.2.2.1 ≠ e.2.2.1) (hne : without t e.2.1 = []) :
    Gone g1 t (pre ++ post) ck (e.1 :: done) (seen.push e.2.2.1) N := by
  obtain ⟨hd, hrow⟩ := h.row (by simp) hs
  refine ⟨h.ok.sub (sub_mid _ _ _), ?_, ?_, ?_, ?_⟩
  · have key : ∀ x ∈ pre ++ e :: post, x.1 ≠ e.1 → x.2.2.1 ≠ e.2.2.1 → ((seen.push e.2.2.1).contains x.2.2.1 = true ↔ x.1 ∈ e.1 :: done) := by
      intro x hx h3 h4
      have h5 := h.seen_iff x hx
      rw [List.mem_cons]
      simp only [Array.contains_push, Bool.or_eq_true, beq_iff_eq, h4, h3, h5, or_false, false_or]
    intro x hx
    rcases List.mem_append.1 hx with hx | hx
    · exact key x (by simp [hx]) (hp1 x hx) (hp3 x hx)
    · exact key x (by simp [hx]) (hp2 x hx) (hp4 x hx)
  · intro q
    rw [← struck hp1 hp2, gr_filter, h.vals q]
    by_cases hq : q = e.1
    · subst hq
      rw [if_pos rfl, if_pos (by simp), hrow, hne]
    · rw [if_neg hq]
      have h6 : (q ∈ e.1 :: done) ↔ q ∈ done := by simp [hq]
      simp only [h6]
  · have := h.le; simp at this ⊢; omega
  · intro x hx
    exact h.lens x ((sub_mid pre post e).subset hx)
theorem Gone.last {g : Int → List Int} {t : Int} {en : List Went} {ck : Nat} {done : List Int} {seen : Array Nat} {N : Nat} (h : Gone (fun k => if k = t then [] else g k) t en ck done seen N) (hall : ∀ e ∈ wes en, seen.contains e.2.2 = true) (k : Int) : gr en k = clearG g t k := by
  have hv := h.vals k
  unfold clearG
  by_cases hk : k ∈ done
  · rw [hv, if_pos hk]
    by_cases e : k = t
    · simp [e, without_nil]
    · simp [e]
  · rw [if_neg hk] at hv
    have h0 : gr en k = [] := gr_none fun e he hek => hk (by
      rw [← hek]
      exact (h.seen_iff e he).1 (hall _ (List.mem_map.2 ⟨e, he, rfl⟩)))
    rw [h0] at hv ⊢
    by_cases e : k = t
    · simp [e]
    · rw [if_neg e] at hv ⊢
      rw [← hv]; rfl
section wait
variable (W0 : World) (L0 : List Seg) (bw : Nat)
theorem clear_nil (L : List Seg) (t : Int) : FnS Try.prog W0 33 #[.pointer none, .int .i64 t] L (fun e L' => L' = L ∧ e = .returned (.tuple #[])) := by
  refine FnS.of (args := [.pointer none, .int .i64 t]) Try.func33 rfl rfl ?_
  refine C.seq ?_
  refine C.region ?_
  refine G.boxI rfl trivial rfl rfl rfl ?_
  intro b3
  refine G.nil ?_
  refine C.seq ?_
  refine C.seq ?_
  refine C.region ?_
  refine G.moveP rfl trivial rfl rfl rfl ?_
  refine G.ptrEq rfl trivial rfl rfl Try.underlying51 rfl rfl ?_
  refine G.nil ?_
  refine C.condT rfl ?_
  refine C.less (fun _ h => h.tail) ?_
  refine C.ret ?_
  -- end 
  exact ⟨rfl, _, Res.of (rs := []) rfl rfl, rfl, rfl⟩
theorem clear_spec (g : Int → List Int) (N : Nat) (s1 s2 s3 : Seg) (h : WtIs bw g N s1 s2 s3) (t : Int) :
    FnS Try.prog W0 33 #[.pointer (some ⟨bw, 0, none⟩), .int .i64 t] (s1 :: s2 :: s3 :: L0)
      (fun e L' => ∃ s1' s2' s3', WtIs bw (clearG g t) N s1' s2' s3' ∧ L' = s1' :: s2' :: s3' :: L0 ∧ e = .returned (.tuple #[])) := by
  refine FnS.drop (R := fun e L' => ∃ i1 i2 s1' s2' s3', WtIs bw (clearG g t) N s1' s2' s3' ∧ L' = i1 :: i2 :: s1' :: s2' :: s3' :: L0 ∧ e = .returned (.tuple #[])) ?_ (fun e L' ⟨i1, i2, s1', s2', s3', h1, h2, h3⟩ => ⟨s1' :: s2' :: s3' :: L0, fun w h => by subst h2; exact h.tail.tail, s1', s2', s3', h1, rfl, h3⟩)
  obtain ⟨bm, en, ck, rfl, rfl, rfl, hw, hg, hen, hlen⟩ := h
  refine FnS.of (args := [.pointer (some ⟨bw, 0, none⟩), .int .i64 t]) Try.func33 rfl rfl ?_
  refine C.seq ?_
  refine C.region ?_
  refine G.boxI rfl trivial rfl rfl rfl ?_
  intro b3
  refine G.nil ?_
  refine C.seq ?_
  refine C.seq ?_
  refine C.region ?_
  refine G.moveP rfl trivial rfl rfl rfl ?_
  refine G.ptrEq rfl trivial rfl rfl Try.underlying51 rfl rfl ?_
  refine G.nil ?_
  refine C.condF rfl ?_
  refine C.skip ?_
  refine C.seq ?_
  refine C.drawn mixed (_) [5] (fun _ h => h) ?_
  refine GA.pure (i := 0) (fun _ _ _ _ _ h => h) rfl (by kernel_rfl) trivial rfl rfl (Y.moveP rfl rfl) (#[true, false, false, false, false, false]) (by kernel_rfl) ?_
  first | refine GA.pure (i := 1) (fun _ _ _ _ _ h => h) rfl (by kernel_rfl) trivial rfl rfl (Y.nilCheckP rfl rfl) (#[true, true, false, false, false, false]) (by kernel_rfl) ?_ | refine GA.pure (i := 1) (fun _ _ _ _ _ h => h) rfl (by kernel_rfl) trivial rfl rfl (Y.nilCheckF rfl rfl) (#[true, true, false, false, false, false]) (by kernel_rfl) ?_
  refine GA.pure (i := 2) (fun _ _ _ _ _ h => h) rfl (by kernel_rfl) trivial rfl rfl (Y.fieldAddr rfl Try.underlying70 rfl I68 rfl rfl) (#[true, true, true, false, false, false]) (by kernel_rfl) ?_
  refine GA.read (i := 3) (fun _ _ _ _ _ h => h) rfl (by kernel_rfl) (by kernel_rfl) trivial rfl rfl (Y.loadAt (by first | exact .here | exact .next .here | exact .next (.next .here) | exact .next (.next (.next .here)) | exact .next (.next (.next (.next .here))) | exact .next (.next (.next (.next (.next .here)))) | exact .next (.next (.next (.next (.next (.next .here))))) | exact .next (.next (.next (.next (.next (.next (.next .here)))))) | exact .in1 | exact .next .in1 | exact .next (.next .in1) | exact .next (.next (.next .in1)) | exact .next (.next (.next (.next .in1))) | exact .in2 | exact .next .in2 | exact .next (.next .in2) | exact .next (.next (.next .in2)) | exact .next (.next (.next (.next .in2))) | exact .app .here | exact .app (.next .here) | exact .app (.next (.next .here)) | exact .app (.next (.next (.next .here))) | exact .app (.next (.next (.next (.next .here)))) | exact .app (.next (.next (.next (.next (.next .here))))) | exact .app (.next (.next (.next (.next (.next (.next .here)))))) | exact .app (.next (.next (.next (.next (.next (.next (.next .here))))))) | exact .app .in1 | exact .app .in2 | exact .app (.next .in1) | exact .next (.app .in1) | exact .next (.next (.app .in1)) | exact .next (.app .here) | exact .next (.next (.app .here)) | exact .next (.next (.next (.app .here))) | exact .next (.next (.next (.next (.app .here))))) rfl Try.underlying68 rfl rfl (by rfl)) (#[true, true, true, true, false, false]) (by kernel_rfl) ?_
  refine GA.read (i := 4) (fun _ _ _ _ _ h => h) rfl (by kernel_rfl) (by kernel_rfl) trivial rfl rfl (Y.loadAt (by first | exact .here | exact .next .here | exact .next (.next .here) | exact .next (.next (.next .here)) | exact .next (.next (.next (.next .here))) | exact .next (.next (.next (.next (.next .here)))) | exact .next (.next (.next (.next (.next (.next .here))))) | exact .next (.next (.next (.next (.next (.next (.next .here)))))) | exact .in1 | exact .next .in1 | exact .next (.next .in1) | exact .next (.next (.next .in1)) | exact .next (.next (.next (.next .in1))) | exact .in2 | exact .next .in2 | exact .next (.next .in2) | exact .next (.next (.next .in2)) | exact .next (.next (.next (.next .in2))) | exact .app .here | exact .app (.next .here) | exact .app (.next (.next .here)) | exact .app (.next (.next (.next .here))) | exact .app (.next (.next (.next (.next .here)))) | exact .app (.next (.next (.next (.next (.next .here))))) | exact .app (.next (.next (.next (.next (.next (.next .here)))))) | exact .app (.next (.next (.next (.next (.next (.next (.next .here))))))) | exact .app .in1 | exact .app .in2 | exact .app (.next .in1) | exact .next (.app .in1) | exact .next (.next (.app .in1)) | exact .next (.app .here) | exact .next (.next (.app .here)) | exact .next (.next (.next (.app .here))) | exact .next (.next (.next (.next (.app .here))))) rfl Try.underlying2 rfl rfl (by rfl)) (#[true, true, true, true, true, false]) (by kernel_rfl) ?_
  refine GA.one (i := 5) rfl (by kernel_rfl) (#[true, true, true, true, true, true]) (by kernel_rfl) ?_
  refine G.delete (.next (.next .here)) (by rw [wes_keys]; exact hw.keys) rfl trivial rfl Try.underlying68 Try.underlying2 rfl rfl ?_
  rw [wes_filter]
  refine G.less (L' := [(b3, .row [.int .i64 t] 2 1)] :: [(bw, .row [.map (some bm)] 70 1)] :: [(bm, mapO .i64 (wes (en.filter fun e => !decide (e.1 = t))) ck)] :: pool (en.filter fun e => !decide (e.1 = t)) :: L0) (fun _ h => pool_sub3 List.filter_sublist h) ?_
  refine G.nil ?_
  refine ⟨fun _ h => absurd h (by simp [hit]), ?_⟩
  refine GA.done (by kernel_rfl) ?_
  refine C.seq ?_
  refine C.region ?_
  refine G.moveP rfl trivial rfl rfl rfl ?_
  first | refine G.nilCheckP rfl trivial rfl rfl rfl ?_ | refine G.nilCheckF rfl trivial rfl rfl rfl ?_
  refine G.fieldAddr rfl trivial rfl rfl Try.underlying70 rfl I68 rfl rfl ?_
  refine G.loadAt (by first | exact .here | exact .next .here | exact .next (.next .here) | exact .next (.next (.next .here)) | exact .next (.next (.next (.next .here))) | exact .next (.next (.next (.next (.next .here)))) | exact .next (.next (.next (.next (.next (.next .here))))) | exact .next (.next (.next (.next (.next (.next (.next .here)))))) | exact .in1 | exact .next .in1 | exact .next (.next .in1) | exact .next (.next (.next .in1)) | exact .next (.next (.next (.next .in1))) | exact .in2 | exact .next .in2 | exact .next (.next .in2) | exact .next (.next (.next .in2)) | exact .next (.next (.next (.next .in2))) | exact .app .here | exact .app (.next .here) | exact .app (.next (.next .here)) | exact .app (.next (.next (.next .here))) | exact .app (.next (.next (.next (.next .here)))) | exact .app (.next (.next (.next (.next (.next .here))))) | exact .app (.next (.next (.next (.next (.next (.next .here)))))) | exact .app (.next (.next (.next (.next (.next (.next (.next .here))))))) | exact .app .in1 | exact .app .in2 | exact .app (.next .in1) | exact .next (.app .in1) | exact .next (.next (.app .in1)) | exact .next (.app .here) | exact .next (.next (.app .here)) | exact .next (.next (.next (.app .here))) | exact .next (.next (.next (.next (.app .here))))) rfl trivial rfl rfl Try.underlying68 rfl rfl (by rfl) ?_
  refine G.range (.next (.next .here)) rfl trivial rfl rfl Try.underlying68 rfl ?_
  intro bi
  refine G.nil ?_
  refine C.block ?_
  refine C.loop (fun m F D' L' => ∃ (en : List Went) (done : List Int) (seen : Array Nat) (c0 : Nat), m = cnt done (en.map (·.1)) + 0 ∧ Gone (fun k => if k = t then [] else g k) t en ck done seen N ∧ ck ≤ c0 ∧ F 0 = .pointer (some ⟨bw, 0, none⟩) ∧ F 3 = .pointer (some ⟨b3, 0, none⟩) ∧ F 17 = .pointer (some ⟨bi, 0, none⟩) ∧ D' = [] ∧ [(bi, .obj (.mapIter (some bm) ck seen c0))] :: [(b3, .row [.int .i64 t] 2 1)] :: [(bw, .row [.map (some bm)] 70 1)] :: [(bm, mapO .i64 (wes en) ck)] :: pool en :: L0 = L') ⟨_, ⟨en.filter fun e => !decide (e.1 = t), [], #[], ck, rfl, ⟨hw.sub List.filter_sublist, fun e he => by simp, fun k => by rw [gr_filter, hg]; simp, Nat.le_trans (List.length_filter_le _ _) hen, fun e he => hlen e (List.mem_filter.1 he).1⟩, Nat.le_refl _, rfl, rfl, rfl, rfl, rfl⟩⟩ ?_
  rintro m F D' L' ⟨en, done, seen, c0, rfl, hgo, hc0, h0, h3, h17, rfl, rfl⟩
  refine C.fix (d := 0) h0 ?_
  refine C.fix (d := 3) h3 ?_
  refine C.fix (d := 17) h17 ?_
  have hold : ∀ e ∈ wes en, e.2.2 < ck := fun e he => by obtain ⟨x, hx, rfl⟩ := List.mem_map.1 he; exact hgo.ok.old x hx
  refine C.seq ?_
  refine C.region ?_
  by_cases hall : ∀ e ∈ wes en, seen.contains e.2.2 = true
  ·
    refine G.nextEnd .here (.next (.next (.next .here))) hold hc0 hall rfl trivial rfl rfl rfl ?_
    refine G.extractL rfl trivial rfl rfl rfl rfl ?_
    refine G.nil ?_
    refine C.seq ?_
    refine C.condF rfl ?_
    refine C.exit ?_
    -- end x18T
    exact ⟨rfl, _, Res.of (rs := []) rfl rfl, _, _, _, _, _, ⟨bm, en, ck, rfl, rfl, rfl, hgo.ok, hgo.last hall, hgo.le, hgo.lens⟩, rfl, rfl⟩
  ·
    refine G.nextOne .here (.next (.next (.next .here))) hold hc0 hall rfl trivial rfl rfl rfl ?_
    intro ew hew hsn
    obtain ⟨e, he, rfl⟩ := List.mem_map.1 hew
    replace hsn : seen.contains e.2.2.1 = false := hsn
    refine G.extractL rfl trivial rfl rfl rfl rfl ?_
    refine G.nil ?_
    refine C.seq ?_
    refine C.condT rfl ?_
    refine C.skip ?_
    refine C.block ?_
    refine C.seq ?_
    refine C.region ?_
    refine G.entry .here (.next (.next (.next .here))) hew (by rw [wes_born]; exact hgo.ok.born) rfl trivial rfl rfl rfl ?_
    refine G.extractL rfl trivial rfl rfl rfl rfl ?_
    refine G.extractL rfl trivial rfl rfl rfl rfl ?_
    refine G.assignI rfl trivial rfl rfl rfl ?_
    refine G.assignS rfl trivial rfl rfl rfl ?_
    have hrl := hgo.lens e he
    obtain ⟨hsome, hsc1, hsc2⟩ := hgo.ok.some_ e he
    obtain ⟨pre, post, rfl, hp1, hp2, hp3, hp4⟩ := hgo.ok.split he
    refine G.less (L' := [wb e] :: [(b3, .row [.int .i64 t] 2 1)] :: (pool pre ++ pool post) :: [(bi, .obj (.mapIter (some bm) ck (seen.push e.2.2.1) ck))] :: [(bw, .row [.map (some bm)] 70 1)] :: [(bm, mapO .i64 (wes (pre ++ e :: post)) ck)] :: L0) (fun _ h => by rw [pool_app] at h; exact (h.up5.outMid).up4.perm2) ?_
    refine G.nil ?_
    refine C.seq ?_
    refine C.region ?_
    refine G.moveS rfl trivial rfl rfl rfl ?_
    refine G.makeFuncL rfl trivial rfl rfl rfl rfl ?_
    refine G.call E30 rfl rfl trivial rfl rfl (deleteI_spec W0 52 E52 (clear1_spec W0) ((pool pre ++ pool post) :: [(bi, .obj (.mapIter (some bm) ck (seen.push e.2.2.1) ck))] :: [(bw, .row [.map (some bm)] 70 1)] :: [(bm, mapO .i64 (wes (pre ++ e :: post)) ck)] :: L0) (wv e) e.2.1 [wb e] (OwnS.mk (by simp) (by omega) hsc1) (by omega) b3 t) rfl ?_
    rintro e L2 ⟨v25, s25, hv25, rfl, rfl⟩
    obtain ⟨a25, c25, rfl, _⟩ := hv25.form
    refine G.assignS rfl trivial rfl rfl rfl ?_
    refine G.nil ?_
    refine C.seq ?_
    refine C.region ?_
    refine G.moveS rfl trivial rfl rfl rfl ?_
    refine G.lenSlice rfl trivial rfl rfl Try.underlying27 rfl ?_
    refine G.bin rfl trivial rfl rfl rfl rfl rfl ?_
    refine G.nil ?_
    refine C.cond _ rfl ?_ ?_
    · intro hc2
      have hne : without t e.2.1 ≠ [] := by intro h2; rw [h2] at hc2; exact absurd hc2 (by decide)
      obtain ⟨bo, co, ko, hoe, rfl, ho1, ho2⟩ := hv25.block (by omega)
      cases hoe
      have hput : mput (wes (pre ++ e :: post)) ck e.1 (.slice (some ⟨bo, 0, none⟩) (without t e.2.1).length c25) = (wes (pre ++ (e.1, without t e.2.1, e.2.2.1, bo, c25, ko) :: post), ck) := by
        rw [wes_app, wes_app]
        exact mput_old (pre := wes pre) (post := wes post) fun x hx => by obtain ⟨y, hy, rfl⟩ := List.mem_map.1 hx; exact hp1 y hy
      refine C.region ?_
      refine G.moveP rfl trivial rfl rfl rfl ?_
      first | refine G.nilCheckP rfl trivial rfl rfl rfl ?_ | refine G.nilCheckF rfl trivial rfl rfl rfl ?_
      refine G.fieldAddr rfl trivial rfl rfl Try.underlying70 rfl I68 rfl rfl ?_
      refine G.loadAt (by first | exact .here | exact .next .here | exact .next (.next .here) | exact .next (.next (.next .here)) | exact .next (.next (.next (.next .here))) | exact .next (.next (.next (.next (.next .here)))) | exact .next (.next (.next (.next (.next (.next .here))))) | exact .next (.next (.next (.next (.next (.next (.next .here)))))) | exact .in1 | exact .next .in1 | exact .next (.next .in1) | exact .next (.next (.next .in1)) | exact .next (.next (.next (.next .in1))) | exact .in2 | exact .next .in2 | exact .next (.next .in2) | exact .next (.next (.next .in2)) | exact .next (.next (.next (.next .in2))) | exact .app .here | exact .app (.next .here) | exact .app (.next (.next .here)) | exact .app (.next (.next (.next .here))) | exact .app (.next (.next (.next (.next .here)))) | exact .app (.next (.next (.next (.next (.next .here))))) | exact .app (.next (.next (.next (.next (.next (.next .here)))))) | exact .app (.next (.next (.next (.next (.next (.next (.next .here))))))) | exact .app .in1 | exact .app .in2 | exact .app (.next .in1) | exact .next (.app .in1) | exact .next (.next (.app .in1)) | exact .next (.app .here) | exact .next (.next (.app .here)) | exact .next (.next (.next (.app .here))) | exact .next (.next (.next (.next (.app .here))))) rfl trivial rfl rfl Try.underlying68 rfl rfl (by rfl) ?_
      refine G.moveI rfl trivial rfl rfl rfl ?_
      refine G.moveS rfl trivial rfl rfl rfl ?_
      refine G.mapUpdate (v := .slice (some ⟨bo, 0, none⟩) (without t e.2.1).length c25) (.next (.next (.next (.next (.next .here))))) rfl trivial rfl Try.underlying68 Try.underlying2 rfl rfl rfl ?_
      rw [hput]
      refine G.less (L' := [(bi, .obj (.mapIter (some bm) ck (seen.push e.2.2.1) ck))] :: [(b3, .row [.int .i64 t] 2 1)] :: [(bw, .row [.map (some bm)] 70 1)] :: [(bm, mapO .i64 (wes (pre ++ (e.1, without t e.2.1, e.2.2.1, bo, c25, ko) :: post)) ck)] :: pool (pre ++ (e.1, without t e.2.1, e.2.2.1, bo, c25, ko) :: post) :: L0) (fun _ h => by rw [pool_app]; exact ((h.of_flat P13).backMid (pre := pool pre) (post := pool post)).up5.up5.up4.up5) ?_
      refine G.nil ?_
      have hcnt := cnt_more (done := done) (k := e.1) (ks := (pre ++ e :: post).map (·.1)) (by simp) (hgo.row (by simp) hsn).1
      exact ⟨cnt (e.1 :: done) ((pre ++ (e.1, without t e.2.1, e.2.2.1, bo, c25, ko) :: post).map (·.1)) + 0, by simp at hcnt ⊢; exact hcnt, _, e.1 :: done, _, ck, rfl, hgo.step hsn hp1 hp2 hp3 hp4 hne ho2 (by omega), Nat.le_refl _, rfl, rfl, rfl, rfl, rfl⟩
    · intro hc2
      refine C.region ?_
      refine G.moveP rfl trivial rfl rfl rfl ?_
      first | refine G.nilCheckP rfl trivial rfl rfl rfl ?_ | refine G.nilCheckF rfl trivial rfl rfl rfl ?_
      refine G.fieldAddr rfl trivial rfl rfl Try.underlying70 rfl I68 rfl rfl ?_
      refine G.loadAt (by first | exact .here | exact .next .here | exact .next (.next .here) | exact .next (.next (.next .here)) | exact .next (.next (.next (.next .here))) | exact .next (.next (.next (.next (.next .here)))) | exact .next (.next (.next (.next (.next (.next .here))))) | exact .next (.next (.next (.next (.next (.next (.next .here)))))) | exact .in1 | exact .next .in1 | exact .next (.next .in1) | exact .next (.next (.next .in1)) | exact .next (.next (.next (.next .in1))) | exact .in2 | exact .next .in2 | exact .next (.next .in2) | exact .next (.next (.next .in2)) | exact .next (.next (.next (.next .in2))) | exact .app .here | exact .app (.next .here) | exact .app (.next (.next .here)) | exact .app (.next (.next (.next .here))) | exact .app (.next (.next (.next (.next .here)))) | exact .app (.next (.next (.next (.next (.next .here))))) | exact .app (.next (.next (.next (.next (.next (.next .here)))))) | exact .app (.next (.next (.next (.next (.next (.next (.next .here))))))) | exact .app .in1 | exact .app .in2 | exact .app (.next .in1) | exact .next (.app .in1) | exact .next (.next (.app .in1)) | exact .next (.app .here) | exact .next (.next (.app .here)) | exact .next (.next (.next (.app .here))) | exact .next (.next (.next (.next (.app .here))))) rfl trivial rfl rfl Try.underlying68 rfl rfl (by rfl) ?_
      refine G.moveI rfl trivial rfl rfl rfl ?_
      refine G.delete (.next (.next (.next (.next (.next .here))))) (by rw [wes_keys]; exact hgo.ok.keys) rfl trivial rfl Try.underlying68 Try.underlying2 rfl rfl ?_
      rw [wes_filter, struck hp1 hp2]
      refine G.less (L' := [(bi, .obj (.mapIter (some bm) ck (seen.push e.2.2.1) ck))] :: [(b3, .row [.int .i64 t] 2 1)] :: [(bw, .row [.map (some bm)] 70 1)] :: [(bm, mapO .i64 (wes (pre ++ post)) ck)] :: pool (pre ++ post) :: L0) (fun _ h => by rw [pool_app]; exact h.tail.perm2.up5.up5.up4.up5) ?_
      refine G.nil ?_
      have hnil : without t e.2.1 = [] := List.eq_nil_of_length_eq_zero (by omega)
      have hcnt := cnt_more (done := done) (k := e.1) (ks := (pre ++ e :: post).map (·.1)) (by simp) (hgo.row (by simp) hsn).1
      have hcs := cnt_sub (done := e.1 :: done) ((sub_mid pre post e).map (·.1))
      exact ⟨cnt (e.1 :: done) ((pre ++ post).map (·.1)) + 0, by omega, _, e.1 :: done, _, ck, rfl, hgo.drop hsn hp1 hp2 hp3 hp4 hnil, Nat.le_refl _, rfl, rfl, rfl, rfl, rfl⟩
end wait
end Go.Proofs.Ytomiidlbfcfpiaa
