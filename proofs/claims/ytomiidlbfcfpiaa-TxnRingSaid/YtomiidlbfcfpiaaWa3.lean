/-
  Waits: the map's rows put in, put anew, struck out; Set walked.
-/
import Derived.Test.YtomiidlbfcfpiaaWa2
import Derived.Test.YtomiidlbfcfpiaaSLX
namespace Go.Proofs.Ytomiidlbfcfpiaa
open Go Go.SL Go.RowKit Go.Sort

/-! ### The map, plainly -/
theorem mput_new {es : Ent} {ck : Nat} {k : Int} {v : Value} (h : ∀ e ∈ es, e.1 ≠ k) : mput es ck k v = (es ++ [(k, v, ck)], ck + 1) := by
  unfold mput
  rw [mfind_none h]
theorem mfind_mid {k : Int} {v : Value} {s : Nat} {post : Ent} : ∀ (pre : Ent) (i : Nat), (∀ x ∈ pre, x.1 ≠ k) → mfind k (pre ++ (k, v, s) :: post) i = some (i + pre.length, v)
  | [], i, _ => by simp [mfind]
  | x :: pre, i, h => by
    rw [List.cons_append]
    simp only [mfind]
    rw [if_neg (fun he => h x (by simp) he.symm), mfind_mid pre (i + 1) fun y hy => h y (by simp [hy])]
    simp; omega
theorem modify_mid {α : Type} (f : α → α) (x : α) (post : List α) : ∀ pre : List α, (pre ++ x :: post).modify pre.length f = pre ++ f x :: post
  | [] => by simp
  | y :: pre => by simp [modify_mid f x post pre]
theorem mput_old {pre post : Ent} {k : Int} {u v : Value} {s ck : Nat} (h : ∀ x ∈ pre, x.1 ≠ k) : mput (pre ++ (k, u, s) :: post) ck k v = (pre ++ (k, v, s) :: post, ck) := by
  unfold mput
  rw [mfind_mid pre 0 h]
  simp only [Nat.zero_add]
  rw [modify_mid]
theorem wes_app (a b : List Went) : wes (a ++ b) = wes a ++ wes b := by simp [wes]
theorem wes_filter (en : List Went) (t : Int) : (wes en).filter (fun e => !decide (e.1 = t)) = wes (en.filter fun e => !decide (e.1 = t)) := by
  unfold wes
  rw [List.filter_map]
  rfl
theorem gr_app (a b : List Went) (k : Int) : gr (a ++ b) k = if ∃ e ∈ a, e.1 = k then gr a k else gr b k := by
  induction a with
  | nil => simp
  | cons x xs ih =>
    rw [List.cons_append, gr_cons, gr_cons, ih]
    by_cases h : x.1 = k
    · simp [h]
    · have hx : (∃ e ∈ x :: xs, e.1 = k) ↔ (∃ e ∈ xs, e.1 = k) := by simp [h]
      rw [if_neg h, if_neg h]
      simp only [hx]
theorem gr_filter (en : List Went) (t k : Int) : gr (en.filter fun e => !decide (e.1 = t)) k = if k = t then [] else gr en k := by
  induction en with
  | nil => simp [gr]
  | cons x xs ih =>
    by_cases h : x.1 = t
    · rw [List.filter_cons_of_neg (by simp [h]), ih, gr_cons]
      by_cases hk : k = t
      · simp [hk]
      · rw [if_neg hk, if_neg hk, if_neg (fun h2 => hk (by rw [← h2, h]))]
    · rw [List.filter_cons_of_pos (by simp [h]), gr_cons, ih, gr_cons]
      by_cases hk : k = t
      · subst hk; simp [h]
      · simp [hk]
theorem gr_mid {pre post : List Went} {e e' : Went} (he : e'.1 = e.1) (h : ∀ x ∈ pre, x.1 ≠ e.1) (k : Int) : gr (pre ++ e' :: post) k = if k = e.1 then e'.2.1 else gr (pre ++ e :: post) k := by
  rw [gr_app, gr_app, gr_cons, gr_cons, he]
  by_cases hk : k = e.1
  · rw [if_pos hk, if_neg (by rintro ⟨x, hx, h2⟩; exact h x hx (by rw [h2, hk])), if_pos hk.symm]
  · have h3 : ¬ e.1 = k := fun h2 => hk h2.symm
    simp only [if_neg hk, if_neg h3]
theorem Wok.split {en : List Went} {ck : Nat} (h : Wok en ck) {e : Went} (he : e ∈ en) : ∃ pre post, en = pre ++ e :: post ∧ (∀ x ∈ pre, x.1 ≠ e.1) ∧ (∀ x ∈ post, x.1 ≠ e.1) ∧ (∀ x ∈ pre, x.2.2.1 ≠ e.2.2.1) ∧ (∀ x ∈ post, x.2.2.1 ≠ e.2.2.1) := by
  obtain ⟨pre, post, rfl⟩ := List.append_of_mem he
  refine ⟨pre, post, rfl, ?_⟩
  have h1 := h.keys
  have h2 := h.born
  rw [List.map_append, List.map_cons, List.nodup_append, List.nodup_cons] at h1 h2
  exact ⟨fun x hx hk => h1.2.2 x.1 (List.mem_map_of_mem hx) e.1 (by simp) hk, fun x hx hk => h1.2.1.1 (by rw [← hk]; exact List.mem_map_of_mem hx),
    fun x hx hk => h2.2.2 x.2.2.1 (List.mem_map.2 ⟨x, hx, rfl⟩) e.2.2.1 (by simp) hk, fun x hx hk => h2.2.1.1 (by rw [← hk]; exact List.mem_map.2 ⟨x, hx, rfl⟩)⟩
theorem Wok.mid {pre post : List Went} {e e' : Went} {ck : Nat} (h : Wok (pre ++ e :: post) ck) (h1 : e'.1 = e.1) (h2 : e'.2.2.1 = e.2.2.1) (h3 : e'.2.1 ≠ [] ∧ e'.2.1.length ≤ e'.2.2.2.2.1 ∧ e'.2.2.2.2.1 ≤ e'.2.2.2.2.2) : Wok (pre ++ e' :: post) ck := by
  refine ⟨?_, ?_, ?_, ?_⟩
  · have := h.keys; simpa [h1] using this
  · have := h.born; simpa [h2] using this
  · intro x hx
    rcases List.mem_append.1 hx with hx | hx
    · exact h.old x (by simp [hx])
    · rcases List.mem_cons.1 hx with rfl | hx
      · rw [h2]; exact h.old e (by simp)
      · exact h.old x (by simp [hx])
  · intro x hx
    rcases List.mem_append.1 hx with hx | hx
    · exact h.some_ x (by simp [hx])
    · rcases List.mem_cons.1 hx with rfl | hx
      · exact h3
      · exact h.some_ x (by simp [hx])
theorem Wok.snoc {en : List Went} {e : Went} {ck : Nat} (h : Wok en ck) (h1 : ∀ x ∈ en, x.1 ≠ e.1) (h2 : e.2.2.1 = ck) (h3 : e.2.1 ≠ [] ∧ e.2.1.length ≤ e.2.2.2.2.1 ∧ e.2.2.2.2.1 ≤ e.2.2.2.2.2) : Wok (en ++ [e]) (ck + 1) := by
  refine ⟨?_, ?_, ?_, ?_⟩
  · rw [List.map_append, List.nodup_append]
    refine ⟨h.keys, by simp, fun a ha b hb hab => ?_⟩
    obtain ⟨x, hx, rfl⟩ := List.mem_map.1 ha
    simp at hb
    exact h1 x hx (by rw [hab, hb])
  · rw [List.map_append, List.nodup_append]
    refine ⟨h.born, by simp, fun a ha b hb hab => ?_⟩
    obtain ⟨x, hx, rfl⟩ := List.mem_map.1 ha
    simp at hb
    have := h.old x hx
    omega
  · intro x hx
    rcases List.mem_append.1 hx with hx | hx
    · have := h.old x hx; omega
    · rw [List.mem_singleton.1 hx]; omega
  · intro x hx
    rcases List.mem_append.1 hx with hx | hx
    · exact h.some_ x hx
    · rw [List.mem_singleton.1 hx]; exact h3
theorem Wok.sub {en en' : List Went} {ck : Nat} (h : Wok en ck) (hs : en'.Sublist en) : Wok en' ck :=
  ⟨(hs.map _).nodup h.keys, (hs.map _).nodup h.born, fun x hx => h.old x (hs.subset hx), fun x hx => h.some_ x (hs.subset hx)⟩
theorem pool_app (a b : List Went) : pool (a ++ b) = pool a ++ pool b := by simp [pool]
theorem pool_sub {W0 w : World} {L : List Seg} {en en' : List Went} (hs : en'.Sublist en) (h : Mem W0 w (pool en :: L)) : Mem W0 w (pool en' :: L) :=
  h.fewer (by simp only [List.flatten_cons]; exact List.Sublist.append_right (hs.map wb) _)
/-- who waits, with one of them told anew -/
def setG (g : Int → List Int) (t : Int) (l : List Int) : Int → List Int := fun k => if k = t then l else g k
/-- a row put into the map: what the map and the rows are then -/
theorem put_row {en : List Went} {ck N : Nat} {g : Int → List Int} (hw : Wok en ck) (hg : ∀ k, gr en k = g k) (hen : en.length ≤ N) (hlen : ∀ e ∈ en, e.2.1.length ≤ 1000) (t : Int) (l : List Int) (b c k : Nat) (hl : l ≠ []) (hl1 : l.length ≤ 1000) (h1 : l.length ≤ c) (h2 : c ≤ k) :
    ∃ en' ck', mput (wes en) ck t (.slice (some ⟨b, 0, none⟩) l.length c) = (wes en', ck') ∧ Wok en' ck' ∧ (∀ k, gr en' k = setG g t l k) ∧ en'.length ≤ N + 1 ∧ (∀ e ∈ en', e.2.1.length ≤ 1000) ∧ ∀ W0 w L, Mem W0 w ([(b, .row (l.map (Value.int .i64)) 2 k)] :: pool en :: L) → Mem W0 w (pool en' :: L) := by
  by_cases he : ∃ e ∈ en, e.1 = t
  · obtain ⟨e, he, rfl⟩ := he
    obtain ⟨pre, post, rfl, hp1, hp2, hp3, hp4⟩ := hw.split he
    refine ⟨pre ++ (e.1, l, e.2.2.1, b, c, k) :: post, ck, ?_, hw.mid rfl rfl ⟨hl, h1, h2⟩, fun q => ?_, ?_, ?_, ?_⟩
    · rw [wes_app, wes_app]
      exact mput_old (pre := wes pre) (post := wes post) fun x hx => by obtain ⟨y, hy, rfl⟩ := List.mem_map.1 hx; exact hp1 y hy
    · rw [gr_mid (e := e) (e' := (e.1, l, e.2.2.1, b, c, k)) rfl hp1, hg]; rfl
    · simp at hen ⊢; omega
    · intro x hx
      rcases List.mem_append.1 hx with hx | hx
      · exact hlen x (by simp [hx])
      · rcases List.mem_cons.1 hx with rfl | hx
        · exact hl1
        · exact hlen x (by simp [hx])
    · intro W0 w L hm
      rw [pool_app] at hm ⊢
      exact hm.intoMid
  · have hno : ∀ x ∈ en, x.1 ≠ t := fun x hx h => he ⟨x, hx, h⟩
    refine ⟨en ++ [(t, l, ck, b, c, k)], ck + 1, ?_, hw.snoc hno rfl ⟨hl, h1, h2⟩, fun q => ?_, ?_, ?_, ?_⟩
    · rw [wes_app, mput_new fun x hx => by obtain ⟨y, hy, rfl⟩ := List.mem_map.1 hx; exact hno y hy]
      rfl
    · unfold setG
      rw [gr_app]
      by_cases hq : q = t
      · subst hq
        rw [if_neg (by rintro ⟨x, hx, h⟩; exact hno x hx h), if_pos rfl]
        simp [gr]
      · rw [if_neg hq]
        split
        · exact hg q
        · rename_i h
          rw [← hg q, gr_none fun e he h2 => h ⟨e, he, h2⟩]
          have h3 : ¬ t = q := fun h2 => hq h2.symm
          simp [gr, h3]
    · simp; omega
    · intro x hx
      rcases List.mem_append.1 hx with hx | hx
      · exact hlen x hx
      · rw [List.mem_singleton.1 hx]; exact hl1
    · intro W0 w L hm
      rw [pool_app]
      exact hm.intoEnd
theorem compact_le (l : List Int) : (compactL l).length ≤ l.length := by
  have : ∀ n (l : List Int), l.length = n → (compactL l).length ≤ n := by
    intro n
    induction n with
    | zero => intro l h; rw [List.eq_nil_of_length_eq_zero h]; exact Nat.le_refl _
    | succ n ih =>
      intro l h
      obtain ⟨m, x, rfl⟩ : ∃ m x, l = m ++ [x] := ⟨l.dropLast, l.getLast (by intro e; rw [e] at h; cases h), (List.dropLast_concat_getLast _).symm⟩
      have := ih m (by simpa using h)
      rw [compact_snoc]
      unfold cstep
      split
      · omega
      · simp; omega
  exact this _ l rfl
theorem WtIs.more {bw N : Nat} {g : Int → List Int} {s1 s2 s3 : Seg} (h : WtIs bw g N s1 s2 s3) : WtIs bw g (N + 1) s1 s2 s3 := by
  obtain ⟨bm, en, ck, h1, h2, h3, h4, h5, h6, h7⟩ := h
  exact ⟨bm, en, ck, h1, h2, h3, h4, h5, by omega, h7⟩
theorem P14 {x a b p : Seg} {L : List Seg} : (x :: a :: b :: p :: L).flatten.Perm (x :: p :: a :: b :: L).flatten := ((List.perm_middle (l₁ := [a, b]) (a := p) (l₂ := L)).cons x).flatten
theorem insAll_nil_of {xs : List Int} (h : ¬ (0 : Int) < ((insAll xs).length : Int)) : insAll xs = [] := List.eq_nil_of_length_eq_zero (by omega)
section wait
variable (W0 : World) (L0 : List Seg) (bw : Nat)
theorem set_nil (L : List Seg) (t : Int) (v : Value) : FnS Try.prog W0 27 #[.pointer none, .int .i64 t, v] L (fun e L' => L' = L ∧ e = .returned (.bool false)) := by
  refine FnS.of (args := [.pointer none, .int .i64 t, v]) Try.func27 rfl rfl ?_
  refine C.seq ?_
  refine C.region ?_
  refine G.assignB rfl trivial rfl rfl rfl ?_
  refine G.nil ?_
  refine C.seq ?_
  refine C.seq ?_
  refine C.region ?_
  refine G.moveP rfl trivial rfl rfl rfl ?_
  refine G.ptrEq rfl trivial rfl rfl Try.underlying51 rfl rfl ?_
  refine G.moveB rfl trivial rfl rfl rfl ?_
  refine G.skip rfl rfl rfl rfl rfl rfl ?_
  refine G.skip rfl rfl rfl rfl rfl rfl ?_
  refine G.skip rfl rfl rfl rfl rfl rfl ?_
  refine G.skip rfl rfl rfl rfl rfl rfl ?_
  first | refine G.pickT rfl trivial rfl rfl rfl rfl ?_ | refine G.pickF rfl trivial rfl rfl rfl rfl ?_
  refine G.nil ?_
  refine C.condT rfl ?_
  refine C.seq ?_
  refine C.region ?_
  refine G.assignB rfl trivial rfl rfl rfl ?_
  refine G.nil ?_
  refine C.ret ?_
  -- end 
  exact ⟨rfl, _, Res.of (rs := [.tmp 6]) rfl rfl, rfl, rfl⟩
theorem set_spec (g : Int → List Int) (N : Nat) (s1 s2 s3 : Seg) (h : WtIs bw g N s1 s2 s3) (hN : N ≤ 1000) (t : Int) (a : Option Addr) (c : Nat) (xs : List Int) (hxs : xs.length ≤ 1000) (hr : Rd W0 (s1 :: s2 :: s3 :: L0) a (xs.map (Value.int .i64))) :
    FnS Try.prog W0 27 #[.pointer (some ⟨bw, 0, none⟩), .int .i64 t, .slice a xs.length c] (s1 :: s2 :: s3 :: L0)
      (fun e L' => ∃ (b : Bool) (g' : Int → List Int) (s1' s2' s3' : Seg), ((b = true ∧ ¬ Rch g xs t ∧ g' = setG g t (insAll xs)) ∨ (b = false ∧ Rch g xs t ∧ g' = g)) ∧ WtIs bw g' (N + 1) s1' s2' s3' ∧ L' = s1' :: s2' :: s3' :: L0 ∧ e = .returned (.bool b)) := by
  refine FnS.of (args := [.pointer (some ⟨bw, 0, none⟩), .int .i64 t, .slice a xs.length c]) Try.func27 rfl rfl ?_
  refine C.seq ?_
  refine C.region ?_
  refine G.assignB rfl trivial rfl rfl rfl ?_
  refine G.nil ?_
  refine C.seq ?_
  refine C.seq ?_
  refine C.region ?_
  refine G.moveP rfl trivial rfl rfl rfl ?_
  refine G.ptrEq rfl trivial rfl rfl Try.underlying51 rfl rfl ?_
  refine G.moveB rfl trivial rfl rfl rfl ?_
  refine G.moveP rfl ⟨_, rfl, rfl, rfl⟩ rfl rfl rfl ?_
  refine G.moveI rfl ⟨_, rfl, rfl, rfl⟩ rfl rfl rfl ?_
  refine G.moveS rfl ⟨_, rfl, rfl, rfl⟩ rfl rfl rfl ?_
  refine G.call E44 rfl rfl ⟨_, rfl, rfl, rfl⟩ rfl rfl (round_spec W0 L0 bw g N s1 s2 s3 h hN t a c xs (by omega) hr) rfl ?_
  rintro e L2 ⟨rfl, bb, hbb, rfl⟩
  first | refine G.pickT rfl trivial rfl rfl rfl rfl ?_ | refine G.pickF rfl trivial rfl rfl rfl rfl ?_
  refine G.nil ?_
  refine C.condB _ rfl ?_ ?_
  · intro hc0
    refine C.seq ?_
    refine C.region ?_
    refine G.assignB rfl trivial rfl rfl rfl ?_
    refine G.nil ?_
    refine C.ret ?_
    -- end c0T
    exact ⟨rfl, _, Res.of (rs := [.tmp 6]) rfl rfl, false, g, s1, s2, s3, .inr ⟨rfl, hbb.1 hc0, rfl⟩, h.more, rfl, rfl⟩
  · intro hc0
    have hno : ¬ Rch g xs t := fun h2 => by rw [hbb.2 h2] at hc0; cases hc0
    refine C.skip ?_
    refine C.seq ?_
    refine C.region ?_
    refine G.moveS rfl trivial rfl rfl rfl ?_
    refine G.call E36 rfl rfl trivial rfl rfl (clone_spec W0 _ a c xs hr (by omega)) rfl ?_
    rintro e L2 ⟨v17, s17, hv17, rfl, rfl⟩
    obtain ⟨a17, c17, rfl, _⟩ := hv17.form
    refine G.assignS rfl trivial rfl rfl rfl ?_
    refine G.nil ?_
    refine C.seq ?_
    refine C.region ?_
    refine G.moveS rfl trivial rfl rfl rfl ?_
    refine G.call E23 rfl rfl trivial rfl rfl (sortO_spec W0 _ _ xs s17 hv17 (by omega)) rfl ?_
    rintro e L2 ⟨s19, hv19, rfl, rfl⟩
    refine G.nil ?_
    refine C.seq ?_
    refine C.seq ?_
    refine C.region ?_
    refine G.moveS rfl trivial rfl rfl rfl ?_
    refine G.call E42 rfl rfl trivial rfl rfl (compact_spec W0 _ _ (sortL xs) s19 hv19 (by rw [sortL_length]; omega)) rfl ?_
    rintro e L2 ⟨v21, s21, hv21, rfl, rfl⟩
    obtain ⟨a21, c21, rfl, _⟩ := hv21.form
    have hlc : (compactL (sortL xs)).length ≤ 1000 := by have := compact_le (sortL xs); rw [sortL_length] at this; omega
    rw [set_same] at hv21 hlc ⊢
    refine G.assignS rfl trivial rfl rfl rfl ?_
    refine G.nil ?_
    refine C.seq ?_
    refine C.region ?_
    refine G.moveS rfl trivial rfl rfl rfl ?_
    refine G.lenSlice rfl trivial rfl rfl Try.underlying27 rfl ?_
    refine G.bin rfl trivial rfl rfl rfl rfl rfl ?_
    obtain ⟨bm, en, ck, rfl, rfl, rfl, hw, hg, hen, hlen⟩ := h
    refine G.nil ?_
    refine C.cond _ rfl ?_ ?_
    · intro hc1
      have hne : insAll xs ≠ [] := by intro h2; rw [h2] at hc1; exact absurd hc1 (by decide)
      obtain ⟨bo, co, ko, hoe, rfl, ho1, ho2⟩ := hv21.block (by omega)
      cases hoe
      obtain ⟨en1, ck1, hput, hw1, hg1, hen1, hlen1, hmem1⟩ := put_row hw hg hen hlen t (insAll xs) bo c21 ko hne hlc ho2 (by omega)
      refine C.region ?_
      refine G.moveP rfl trivial rfl rfl rfl ?_
      first | refine G.nilCheckP rfl trivial rfl rfl rfl ?_ | refine G.nilCheckF rfl trivial rfl rfl rfl ?_
      refine G.fieldAddr rfl trivial rfl rfl Try.underlying70 rfl I68 rfl rfl ?_
      refine G.loadAt (by first | exact .here | exact .next .here | exact .next (.next .here) | exact .next (.next (.next .here)) | exact .next (.next (.next (.next .here))) | exact .next (.next (.next (.next (.next .here)))) | exact .next (.next (.next (.next (.next (.next .here))))) | exact .next (.next (.next (.next (.next (.next (.next .here)))))) | exact .in1 | exact .next .in1 | exact .next (.next .in1) | exact .next (.next (.next .in1)) | exact .next (.next (.next (.next .in1))) | exact .in2 | exact .next .in2 | exact .next (.next .in2) | exact .next (.next (.next .in2)) | exact .next (.next (.next (.next .in2))) | exact .app .here | exact .app (.next .here) | exact .app (.next (.next .here)) | exact .app (.next (.next (.next .here))) | exact .app (.next (.next (.next (.next .here)))) | exact .app (.next (.next (.next (.next (.next .here))))) | exact .app (.next (.next (.next (.next (.next (.next .here)))))) | exact .app (.next (.next (.next (.next (.next (.next (.next .here))))))) | exact .app .in1 | exact .app .in2 | exact .app (.next .in1) | exact .next (.app .in1) | exact .next (.next (.app .in1)) | exact .next (.app .here) | exact .next (.next (.app .here)) | exact .next (.next (.next (.app .here))) | exact .next (.next (.next (.next (.app .here))))) rfl trivial rfl rfl Try.underlying68 rfl rfl (by rfl) ?_
      refine G.moveI rfl trivial rfl rfl rfl ?_
      refine G.moveS rfl trivial rfl rfl rfl ?_
      refine G.mapUpdate (v := .slice (some ⟨bo, 0, none⟩) (insAll xs).length c21) (.next (.next .here)) rfl trivial rfl Try.underlying68 Try.underlying2 rfl rfl rfl ?_
      rw [hput]
      refine G.less (L' := [(bw, .row [.map (some bm)] 70 1)] :: [(bm, mapO .i64 (wes en1) ck1)] :: pool en1 :: L0) (fun _ h => ((hmem1 _ _ _ (h.of_flat P14))).of_flat P3.symm) ?_
      refine G.nil ?_
      refine C.seq ?_
      refine C.region ?_
      refine G.assignB rfl trivial rfl rfl rfl ?_
      refine G.nil ?_
      refine C.ret ?_
      -- end c0Fc1T
      exact ⟨rfl, _, Res.of (rs := [.tmp 6]) rfl rfl, true, setG g t (insAll xs), _, _, _, .inl ⟨rfl, hno, rfl⟩, ⟨bm, en1, ck1, rfl, rfl, rfl, hw1, hg1, hen1, hlen1⟩, rfl, rfl⟩
    · intro hc1
      have hnil : insAll xs = [] := insAll_nil_of hc1
      refine C.region ?_
      refine G.moveP rfl trivial rfl rfl rfl ?_
      first | refine G.nilCheckP rfl trivial rfl rfl rfl ?_ | refine G.nilCheckF rfl trivial rfl rfl rfl ?_
      refine G.fieldAddr rfl trivial rfl rfl Try.underlying70 rfl I68 rfl rfl ?_
      refine G.loadAt (by first | exact .here | exact .next .here | exact .next (.next .here) | exact .next (.next (.next .here)) | exact .next (.next (.next (.next .here))) | exact .next (.next (.next (.next (.next .here)))) | exact .next (.next (.next (.next (.next (.next .here))))) | exact .next (.next (.next (.next (.next (.next (.next .here)))))) | exact .in1 | exact .next .in1 | exact .next (.next .in1) | exact .next (.next (.next .in1)) | exact .next (.next (.next (.next .in1))) | exact .in2 | exact .next .in2 | exact .next (.next .in2) | exact .next (.next (.next .in2)) | exact .next (.next (.next (.next .in2))) | exact .app .here | exact .app (.next .here) | exact .app (.next (.next .here)) | exact .app (.next (.next (.next .here))) | exact .app (.next (.next (.next (.next .here)))) | exact .app (.next (.next (.next (.next (.next .here))))) | exact .app (.next (.next (.next (.next (.next (.next .here)))))) | exact .app (.next (.next (.next (.next (.next (.next (.next .here))))))) | exact .app .in1 | exact .app .in2 | exact .app (.next .in1) | exact .next (.app .in1) | exact .next (.next (.app .in1)) | exact .next (.app .here) | exact .next (.next (.app .here)) | exact .next (.next (.next (.app .here))) | exact .next (.next (.next (.next (.app .here))))) rfl trivial rfl rfl Try.underlying68 rfl rfl (by rfl) ?_
      refine G.moveI rfl trivial rfl rfl rfl ?_
      refine G.delete (.next (.next .here)) (by rw [wes_keys]; exact hw.keys) rfl trivial rfl Try.underlying68 Try.underlying2 rfl rfl ?_
      rw [wes_filter]
      refine G.less (L' := [(bw, .row [.map (some bm)] 70 1)] :: [(bm, mapO .i64 (wes (en.filter fun e => !decide (e.1 = t))) ck)] :: pool (en.filter fun e => !decide (e.1 = t)) :: L0) (fun _ h => (pool_sub List.filter_sublist (h.tail.of_flat P3)).of_flat P3.symm) ?_
      refine G.nil ?_
      refine C.seq ?_
      refine C.region ?_
      refine G.assignB rfl trivial rfl rfl rfl ?_
      refine G.nil ?_
      refine C.ret ?_
      -- end c0Fc1F
      exact ⟨rfl, _, Res.of (rs := [.tmp 6]) rfl rfl, true, setG g t (insAll xs), _, _, _, .inl ⟨rfl, hno, rfl⟩, ⟨bm, en.filter fun e => !decide (e.1 = t), ck, rfl, rfl, rfl, hw.sub List.filter_sublist, fun k => by rw [gr_filter, hnil, hg]; rfl, by have := List.length_filter_le (fun e : Went => !decide (e.1 = t)) en; omega, fun e he => hlen e (List.mem_filter.1 he).1⟩, rfl, rfl⟩
end wait
end Go.Proofs.Ytomiidlbfcfpiaa
