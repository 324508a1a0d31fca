/-
  Waits: the document's answer (engrossref23), walked: Round, On, Clear, Set.
-/
import Derived.Test.YtomiidlbfcfpiaaWa4
namespace Go.Proofs.Ytomiidlbfcfpiaa
open Go Go.SL Go.RowKit Go.Sort

abbrev Edge := Int × Int
def edC (e : Edge) : List Value := [.int .i64 e.1, .int .i64 e.2]
theorem edC_ok (o : Edge) : ∀ v ∈ edC o, cellsOk v = true := by
  intro v hv
  simp only [edC, List.mem_cons, List.not_mem_nil, or_false] at hv
  rcases hv with rfl | rfl <;> rfl
theorem ed_at {ls : List Edge} {i : Nat} (h : i < ls.length) : (ls.flatMap edC)[0 + (i : Int).toNat * 2 + 0]? = some (.int .i64 ls[i].1) ∧ (ls.flatMap edC)[0 + (i : Int).toNat * 2 + 1]? = some (.int .i64 ls[i].2) := by
  have hr := row_chunk (rs := []) (f := edC) (k := 2) (fun _ _ => rfl) h
  rw [List.append_nil] at hr
  exact ⟨hr 0 _ rfl, hr 1 _ rfl⟩
def RwIs (bw : Nat) (es : List Edge) (s1 s2 : Seg) : Prop := ∃ v, OwnS v es.length (es.flatMap edC) 86 2 s1 ∧ s2 = [(bw, .row [v] 33 1)]
def gE (es : List Edge) (x : Int) : List Int := (es.filter fun e => decide (e.1 = x)).map (·.2)
theorem gE_mem {es : List Edge} {x y : Int} : y ∈ gE es x ↔ (x, y) ∈ es := by
  unfold gE
  simp only [List.mem_map, List.mem_filter, decide_eq_true_eq]
  constructor
  · rintro ⟨e, ⟨he, rfl⟩, rfl⟩; exact he
  · intro h; exact ⟨(x, y), ⟨h, rfl⟩, rfl⟩
theorem gE_take {es : List Edge} {x : Int} {j : Nat} (h : j < es.length) : gE (es.take (j + 1)) x = if es[j].1 = x then gE (es.take j) x ++ [es[j].2] else gE (es.take j) x := by
  unfold gE
  rw [List.take_succ_eq_append_getElem h, List.filter_append]
  by_cases e : es[j].1 = x <;> simp [e]
def left (sl : List Int) (es : List Edge) : Nat := (es.filter fun e => !decide (e.2 ∈ sl)).length
theorem left_le (sl : List Int) (es : List Edge) : left sl es ≤ es.length := List.length_filter_le _ _
theorem left_ins {sl : List Int} {es : List Edge} {e : Edge} (he : e ∈ es) (hn : e.2 ∉ sl) : left (insL sl e.2) es < left sl es := by
  unfold left
  have hiff : ∀ y, y ∈ insL sl e.2 ↔ y = e.2 ∨ y ∈ sl := fun y => insL_mem sl e.2 y
  generalize insL sl e.2 = sl' at hiff
  have hle : ∀ xs : List Edge, (xs.filter fun e => !decide (e.2 ∈ sl')).length ≤ (xs.filter fun e => !decide (e.2 ∈ sl)).length := by
    intro xs
    induction xs with
    | nil => simp
    | cons y ys ih =>
      by_cases h1 : y.2 ∈ sl
      · have h3 := (hiff y.2).2 (.inr h1)
        rw [List.filter_cons_of_neg (by simp [h3]), List.filter_cons_of_neg (by simp [h1])]; exact ih
      · rw [List.filter_cons_of_pos (l := ys) (p := fun e : Edge => !decide (e.2 ∈ sl)) (by simp [h1])]
        by_cases h2 : y.2 ∈ sl'
        · rw [List.filter_cons_of_neg (by simp [h2])]; simp only [List.length_cons]; omega
        · rw [List.filter_cons_of_pos (by simp [h2])]; simp only [List.length_cons]; omega
  induction es with
  | nil => cases he
  | cons x xs ih =>
    have h0 := hle xs
    by_cases hx : x = e
    · subst hx
      have h3 := (hiff x.2).2 (.inl rfl)
      rw [List.filter_cons_of_neg (by simp [h3]), List.filter_cons_of_pos (by simp [hn])]
      simp only [List.length_cons]; omega
    · have h4 := ih (by rcases List.mem_cons.1 he with h | h; exact absurd h.symm hx; exact h)
      by_cases h1 : x.2 ∈ sl
      · have h3 := (hiff x.2).2 (.inr h1)
        rw [List.filter_cons_of_neg (by simp [h3]), List.filter_cons_of_neg (by simp [h1])]; exact h4
      · rw [List.filter_cons_of_pos (l := xs) (p := fun e : Edge => !decide (e.2 ∈ sl)) (by simp [h1])]
        by_cases h2 : x.2 ∈ sl'
        · rw [List.filter_cons_of_neg (by simp [h2])]; simp only [List.length_cons]; omega
        · rw [List.filter_cons_of_pos (by simp [h2])]; simp only [List.length_cons]; omega
theorem take_one {xs : List Int} {i : Nat} (h : i < xs.length) : insAll (xs.take (i + 1)) = insL (insAll (xs.take i)) xs[i]! := by rw [take_snoc h, insAll_snoc]
section ref
variable (W0 : World) (L0 : List Seg) (bw : Nat)
theorem rround_spec (es : List Edge) (s1 s2 : Seg) (h : RwIs bw es s1 s2) (hl : es.length ≤ 900000) (t : Int) (a : Option Addr) (c : Nat) (xs : List Int) (hxs : xs.length ≤ 1000) (hr : Rd W0 (s1 :: s2 :: L0) a (xs.map (Value.int .i64))) :
    FnS Try.prog W0 47 #[.pointer (some ⟨bw, 0, none⟩), .int .i64 t, .slice a xs.length c] (s1 :: s2 :: L0) (fun e L' => L' = s1 :: s2 :: L0 ∧ ∃ b : Bool, (b = true ↔ Rch (gE es) xs t) ∧ e = .returned (.bool b)) := by
  obtain ⟨v, hv, rfl⟩ := h
  obtain ⟨av, cv, rfl, _⟩ := hv.form
  refine FnS.of (args := [.pointer (some ⟨bw, 0, none⟩), .int .i64 t, .slice a xs.length c]) Try.func47 rfl rfl ?_
  refine C.seq ?_
  refine C.region ?_
  refine G.assignB rfl trivial rfl rfl rfl ?_
  refine G.nil ?_
  refine C.seq ?_
  refine C.region ?_
  refine G.assignS rfl trivial rfl rfl rfl ?_
  refine G.nil ?_
  refine C.seq ?_
  refine C.seq ?_
  refine C.region ?_
  refine G.assignI rfl trivial rfl rfl rfl ?_
  refine G.less (fun _ h => h.empty) ?_
  refine G.nil ?_
  refine C.block ?_
  refine C.loop (fun m F D' L' => ∃ (i : Nat) (ao : Option Addr) (co : Nat) (so : Seg), m = xs.length - i + 0 ∧ i ≤ xs.length ∧ OwnS (.slice ao (insAll (xs.take i)).length co) (insAll (xs.take i)).length ((insAll (xs.take i)).map (Value.int .i64)) 2 1 so ∧ F 0 = .pointer (some ⟨bw, 0, none⟩) ∧ F 1 = .int .i64 t ∧ F 2 = .slice a xs.length c ∧ F 7 = .slice ao (insAll (xs.take i)).length co ∧ F 8 = .int .i64 (i : Int) ∧ D' = [] ∧ so :: s1 :: [(bw, .row [.slice av es.length cv] 33 1)] :: L0 = L') ⟨_, ⟨0, none, 0, [], rfl, Nat.zero_le _, OwnS.nil _ _, rfl, rfl, rfl, rfl, rfl, rfl, rfl⟩⟩ ?_
  rintro m F D' L' ⟨i, ao, co, so, rfl, hi, hon, h0, h1, h2, h7, h8, rfl, rfl⟩
  refine C.fix (d := 0) h0 ?_
  refine C.fix (d := 1) h1 ?_
  refine C.fix (d := 2) h2 ?_
  refine C.fix (d := 7) h7 ?_
  refine C.fix (d := 8) h8 ?_
  refine C.seq ?_
  refine C.seq ?_
  refine C.region ?_
  refine G.moveI rfl trivial rfl rfl rfl ?_
  refine G.moveS rfl trivial rfl rfl rfl ?_
  refine G.lenSlice rfl trivial rfl rfl Try.underlying27 rfl ?_
  refine G.bin rfl trivial rfl rfl rfl rfl rfl ?_
  refine G.nil ?_
  refine C.cond _ rfl ?_ ?_
  · intro hc0
    have hlt : i < xs.length := by omega
    obtain ⟨p, o, hao, _⟩ := hr.some_ (by simp; omega)
    subst hao
    have hal := insAll_length _ (xs.take i) rfl
    rw [List.length_take] at hal
    refine C.skip ?_
    refine C.seq ?_
    refine C.block ?_
    refine C.region ?_
    refine G.moveS rfl trivial rfl rfl rfl ?_
    refine G.moveS rfl trivial rfl rfl rfl ?_
    refine G.moveI rfl trivial rfl rfl rfl ?_
    refine G.indexAddr rfl trivial rfl rfl Try.underlying27 I2 rfl rfl (by omega) ?_
    refine G.load rfl trivial rfl rfl Try.underlying2 rfl rfl (rd_at hr.cons hlt) ?_
    refine G.call E25 rfl rfl trivial rfl rfl (insert_spec W0 _ _ (insAll (xs.take i)) so hon (by omega) xs[i]!) rfl ?_
    rintro e L2 ⟨v23, s23, hv23, rfl, rfl⟩
    obtain ⟨a23, c23, rfl, _⟩ := hv23.form
    refine G.assignS rfl trivial rfl rfl rfl ?_
    refine G.nil ?_
    refine C.region ?_
    refine G.moveI rfl trivial rfl rfl rfl ?_
    refine G.addN (j := 1) rfl trivial rfl rfl rfl rfl (by omega) ?_
    refine G.assignI rfl trivial rfl rfl rfl ?_
    refine G.nil ?_
    exact ⟨xs.length - (i + 1) + 0, by omega, i + 1, a23, c23, s23, rfl, by omega, by rw [take_one hlt]; exact hv23, rfl, rfl, rfl, by rw [take_one hlt]; rfl, rfl, rfl, rfl⟩
  · intro hc0
    rw [List.take_of_length_le (show xs.length ≤ i by omega)] at hon h7 ⊢
    have hal := insAll_length _ xs rfl
    have hll := left_le (insAll xs) es
    refine C.exit ?_
    refine C.seq ?_
    refine C.seq ?_
    refine C.region ?_
    refine G.assignB rfl trivial rfl rfl rfl ?_
    refine G.nil ?_
    refine C.block ?_
    refine C.loop (fun m F D' L' => ∃ (sl : List Int) (ao : Option Addr) (co : Nat) (so : Seg) (more : Bool), m = 2 * left sl es + (if more = true then 1 else 0) + 0 ∧ sl.length + left sl es ≤ xs.length + es.length ∧ OwnS (.slice ao sl.length co) sl.length (sl.map (Value.int .i64)) 2 1 so ∧ (∀ y ∈ sl, Rch (gE es) xs y) ∧ (∀ y ∈ xs, y ∈ sl) ∧ (more = false → ∀ e ∈ es, e.1 ≠ t → e.1 ∈ sl → e.2 ∈ sl) ∧ F 0 = .pointer (some ⟨bw, 0, none⟩) ∧ F 1 = .int .i64 t ∧ F 7 = .slice ao sl.length co ∧ F 9 = .bool more ∧ D' = [] ∧ so :: s1 :: [(bw, .row [.slice av es.length cv] 33 1)] :: L0 = L') ⟨_, ⟨insAll xs, ao, co, so, true, rfl, by omega, hon, fun y hy => .base ((insAll_mem _ xs rfl y).1 hy), fun y hy => (insAll_mem _ xs rfl y).2 hy, fun h => (by cases h), rfl, rfl, rfl, rfl, rfl, rfl⟩⟩ ?_
    rintro m F D' L' ⟨sl0, ao, co, so, more, rfl, hb, hon, hrch, hsub, hclo, h0, h1, h7, h9, rfl, rfl⟩
    refine C.fix (d := 0) h0 ?_
    refine C.fix (d := 1) h1 ?_
    refine C.fix (d := 7) h7 ?_
    refine C.fix (d := 9) h9 ?_
    refine C.seq ?_
    refine C.seq ?_
    refine C.region ?_
    refine G.moveB rfl trivial rfl rfl rfl ?_
    refine G.nil ?_
    refine C.condB _ rfl ?_ ?_
    · intro hc1
      subst hc1
      refine C.skip ?_
      refine C.block ?_
      refine C.seq ?_
      refine C.region ?_
      refine G.assignB rfl trivial rfl rfl rfl ?_
      refine G.nil ?_
      refine C.seq ?_
      refine C.region ?_
      refine G.assignI rfl trivial rfl rfl rfl ?_
      refine G.nil ?_
      refine C.block ?_
      refine C.loop (fun m F D' L' => ∃ (j : Nat) (sl : List Int) (ao : Option Addr) (co : Nat) (so : Seg) (more : Bool), m = es.length - j + 0 ∧ j ≤ es.length ∧ sl.length + left sl es ≤ xs.length + es.length ∧ left sl es ≤ left sl0 es ∧ (more = true → left sl es < left sl0 es) ∧ OwnS (.slice ao sl.length co) sl.length (sl.map (Value.int .i64)) 2 1 so ∧ (∀ y ∈ sl, Rch (gE es) xs y) ∧ (∀ y ∈ xs, y ∈ sl) ∧ (more = false → ∀ e ∈ es.take j, e.1 ≠ t → e.1 ∈ sl → e.2 ∈ sl) ∧ F 0 = .pointer (some ⟨bw, 0, none⟩) ∧ F 1 = .int .i64 t ∧ F 7 = .slice ao sl.length co ∧ F 9 = .bool more ∧ F 10 = .int .i64 (j : Int) ∧ D' = [] ∧ so :: s1 :: [(bw, .row [.slice av es.length cv] 33 1)] :: L0 = L') ⟨_, ⟨0, sl0, ao, co, so, false, rfl, Nat.zero_le _, hb, Nat.le_refl _, fun h => (by cases h), hon, hrch, hsub, fun _ e he => absurd he (by simp), rfl, rfl, rfl, rfl, rfl, rfl, rfl⟩⟩ ?_
      rintro m F D' L' ⟨j, sl, ao, co, so, more, rfl, hj, hb2, hle, hlt2, hon, hrch, hsub, hclo, h0, h1, h7, h9, h10, rfl, rfl⟩
      refine C.fix (d := 0) h0 ?_
      refine C.fix (d := 1) h1 ?_
      refine C.fix (d := 7) h7 ?_
      refine C.fix (d := 9) h9 ?_
      refine C.fix (d := 10) h10 ?_
      refine C.seq ?_
      refine C.seq ?_
      refine C.region ?_
      refine G.moveI rfl trivial rfl rfl rfl ?_
      refine G.moveP rfl trivial rfl rfl rfl ?_
      first | refine G.nilCheckP rfl trivial rfl rfl rfl ?_ | refine G.nilCheckF rfl trivial rfl rfl rfl ?_
      refine G.fieldAddr rfl trivial rfl rfl Try.underlying33 rfl I31 rfl rfl ?_
      refine G.loadAt (by first | exact .here | exact .next .here | exact .next (.next .here) | exact .next (.next (.next .here)) | exact .next (.next (.next (.next .here))) | exact .next (.next (.next (.next (.next .here)))) | exact .next (.next (.next (.next (.next (.next .here))))) | exact .next (.next (.next (.next (.next (.next (.next .here)))))) | exact .in1 | exact .next .in1 | exact .next (.next .in1) | exact .next (.next (.next .in1)) | exact .next (.next (.next (.next .in1))) | exact .in2 | exact .next .in2 | exact .next (.next .in2) | exact .next (.next (.next .in2)) | exact .next (.next (.next (.next .in2))) | exact .app .here | exact .app (.next .here) | exact .app (.next (.next .here)) | exact .app (.next (.next (.next .here))) | exact .app (.next (.next (.next (.next .here)))) | exact .app (.next (.next (.next (.next (.next .here))))) | exact .app (.next (.next (.next (.next (.next (.next .here)))))) | exact .app (.next (.next (.next (.next (.next (.next (.next .here))))))) | exact .app .in1 | exact .app .in2 | exact .app (.next .in1) | exact .next (.app .in1) | exact .next (.next (.app .in1)) | exact .next (.app .here) | exact .next (.next (.app .here)) | exact .next (.next (.next (.app .here))) | exact .next (.next (.next (.next (.app .here))))) rfl trivial rfl rfl Try.underlying31 rfl rfl (by rfl) ?_
      refine G.lenSlice rfl trivial rfl rfl Try.underlying31 rfl ?_
      refine G.bin rfl trivial rfl rfl rfl rfl rfl ?_
      refine G.nil ?_
      refine C.cond _ rfl ?_ ?_
      · intro hc2
        have hlt : j < es.length := by omega
        obtain ⟨bq, cq, kq, hveq, rfl, hq1, hq2⟩ := hv.block (by omega)
        cases hveq
        obtain ⟨af, cf, haf, hrf⟩ := hon.form
        cases haf
        have hmem : es[j] ∈ es := List.getElem_mem hlt
        refine C.skip ?_
        refine C.seq ?_
        refine C.block ?_
        refine C.seq ?_
        refine C.region ?_
        refine G.moveP rfl trivial rfl rfl rfl ?_
        first | refine G.nilCheckP rfl trivial rfl rfl rfl ?_ | refine G.nilCheckF rfl trivial rfl rfl rfl ?_
        refine G.fieldAddr rfl trivial rfl rfl Try.underlying33 rfl I31 rfl rfl ?_
        refine G.loadAt (by first | exact .here | exact .next .here | exact .next (.next .here) | exact .next (.next (.next .here)) | exact .next (.next (.next (.next .here))) | exact .next (.next (.next (.next (.next .here)))) | exact .next (.next (.next (.next (.next (.next .here))))) | exact .next (.next (.next (.next (.next (.next (.next .here)))))) | exact .in1 | exact .next .in1 | exact .next (.next .in1) | exact .next (.next (.next .in1)) | exact .next (.next (.next (.next .in1))) | exact .in2 | exact .next .in2 | exact .next (.next .in2) | exact .next (.next (.next .in2)) | exact .next (.next (.next (.next .in2))) | exact .app .here | exact .app (.next .here) | exact .app (.next (.next .here)) | exact .app (.next (.next (.next .here))) | exact .app (.next (.next (.next (.next .here)))) | exact .app (.next (.next (.next (.next (.next .here))))) | exact .app (.next (.next (.next (.next (.next (.next .here)))))) | exact .app (.next (.next (.next (.next (.next (.next (.next .here))))))) | exact .app .in1 | exact .app .in2 | exact .app (.next .in1) | exact .next (.app .in1) | exact .next (.next (.app .in1)) | exact .next (.app .here) | exact .next (.next (.app .here)) | exact .next (.next (.next (.app .here))) | exact .next (.next (.next (.next (.app .here))))) rfl trivial rfl rfl Try.underlying31 rfl rfl (by rfl) ?_
        refine G.moveI rfl trivial rfl rfl rfl ?_
        refine G.indexAddr rfl trivial rfl rfl Try.underlying31 I86 rfl rfl (by omega) ?_
        refine G.loadAgg (edC es[j]) rfl trivial rfl rfl Try.underlying86 rfl I86 rfl rfl (fun w hm => agg_of_row hm (.next .here) (by have h := row_chunk (rs := []) (f := edC) (k := 2) (fun _ _ => rfl) hlt; rw [List.append_nil] at h; exact h)) ?_
        refine G.allocC (cs := [(.int .i64 0), (.int .i64 0)]) rfl trivial rfl rfl I86 rfl ?_
        intro b11
        refine G.stRow .here rfl trivial rfl I86 rfl rfl rfl (by rfl) (edC_ok _) ?_
        refine G.nil ?_
        refine C.seq ?_
        refine C.region ?_
        refine G.fieldAddr rfl trivial rfl rfl Try.underlying86 rfl I2 rfl rfl ?_
        refine G.loadAt (by first | exact .here | exact .next .here | exact .next (.next .here) | exact .next (.next (.next .here)) | exact .next (.next (.next (.next .here))) | exact .next (.next (.next (.next (.next .here)))) | exact .next (.next (.next (.next (.next (.next .here))))) | exact .next (.next (.next (.next (.next (.next (.next .here)))))) | exact .in1 | exact .next .in1 | exact .next (.next .in1) | exact .next (.next (.next .in1)) | exact .next (.next (.next (.next .in1))) | exact .in2 | exact .next .in2 | exact .next (.next .in2) | exact .next (.next (.next .in2)) | exact .next (.next (.next (.next .in2))) | exact .app .here | exact .app (.next .here) | exact .app (.next (.next .here)) | exact .app (.next (.next (.next .here))) | exact .app (.next (.next (.next (.next .here)))) | exact .app (.next (.next (.next (.next (.next .here))))) | exact .app (.next (.next (.next (.next (.next (.next .here)))))) | exact .app (.next (.next (.next (.next (.next (.next (.next .here))))))) | exact .app .in1 | exact .app .in2 | exact .app (.next .in1) | exact .next (.app .in1) | exact .next (.next (.app .in1)) | exact .next (.app .here) | exact .next (.next (.app .here)) | exact .next (.next (.next (.app .here))) | exact .next (.next (.next (.next (.app .here))))) rfl trivial rfl rfl Try.underlying2 rfl rfl (by rfl) ?_
        refine G.moveI rfl trivial rfl rfl rfl ?_
        refine G.bin rfl trivial rfl rfl rfl rfl rfl ?_
        refine G.moveB rfl trivial rfl rfl rfl ?_
        refine G.fork (t := 45) _ rfl ?_ ?_
        · intro hg45
          refine G.moveS rfl ⟨_, rfl, rfl, rfl⟩ rfl rfl rfl ?_
          refine G.fieldAddr rfl ⟨_, rfl, rfl, rfl⟩ rfl rfl Try.underlying86 rfl I2 rfl rfl ?_
          refine G.loadAt (by first | exact .here | exact .next .here | exact .next (.next .here) | exact .next (.next (.next .here)) | exact .next (.next (.next (.next .here))) | exact .next (.next (.next (.next (.next .here)))) | exact .next (.next (.next (.next (.next (.next .here))))) | exact .next (.next (.next (.next (.next (.next (.next .here)))))) | exact .in1 | exact .next .in1 | exact .next (.next .in1) | exact .next (.next (.next .in1)) | exact .next (.next (.next (.next .in1))) | exact .in2 | exact .next .in2 | exact .next (.next .in2) | exact .next (.next (.next .in2)) | exact .next (.next (.next (.next .in2))) | exact .app .here | exact .app (.next .here) | exact .app (.next (.next .here)) | exact .app (.next (.next (.next .here))) | exact .app (.next (.next (.next (.next .here)))) | exact .app (.next (.next (.next (.next (.next .here))))) | exact .app (.next (.next (.next (.next (.next (.next .here)))))) | exact .app (.next (.next (.next (.next (.next (.next (.next .here))))))) | exact .app .in1 | exact .app .in2 | exact .app (.next .in1) | exact .next (.app .in1) | exact .next (.next (.app .in1)) | exact .next (.app .here) | exact .next (.next (.app .here)) | exact .next (.next (.next (.app .here))) | exact .next (.next (.next (.next (.app .here))))) rfl ⟨_, rfl, rfl, rfl⟩ rfl rfl Try.underlying2 rfl rfl (by rfl) ?_
          refine G.call E24 rfl rfl ⟨_, rfl, rfl, rfl⟩ rfl rfl (in_spec W0 _ ao co sl (hrf W0 _).cons (by omega) es[j].1) rfl ?_
          rintro e L2 ⟨rfl, rfl⟩
          first | refine G.pickT rfl trivial rfl rfl rfl rfl ?_ | refine G.pickF rfl trivial rfl rfl rfl rfl ?_
          refine G.moveB rfl trivial rfl rfl rfl ?_
          refine G.fork (t := 51) _ rfl ?_ ?_
          · intro hg51
            refine G.moveS rfl ⟨_, rfl, rfl, rfl⟩ rfl rfl rfl ?_
            refine G.fieldAddr rfl ⟨_, rfl, rfl, rfl⟩ rfl rfl Try.underlying86 rfl I2 rfl rfl ?_
            refine G.loadAt (by first | exact .here | exact .next .here | exact .next (.next .here) | exact .next (.next (.next .here)) | exact .next (.next (.next (.next .here))) | exact .next (.next (.next (.next (.next .here)))) | exact .next (.next (.next (.next (.next (.next .here))))) | exact .next (.next (.next (.next (.next (.next (.next .here)))))) | exact .in1 | exact .next .in1 | exact .next (.next .in1) | exact .next (.next (.next .in1)) | exact .next (.next (.next (.next .in1))) | exact .in2 | exact .next .in2 | exact .next (.next .in2) | exact .next (.next (.next .in2)) | exact .next (.next (.next (.next .in2))) | exact .app .here | exact .app (.next .here) | exact .app (.next (.next .here)) | exact .app (.next (.next (.next .here))) | exact .app (.next (.next (.next (.next .here)))) | exact .app (.next (.next (.next (.next (.next .here))))) | exact .app (.next (.next (.next (.next (.next (.next .here)))))) | exact .app (.next (.next (.next (.next (.next (.next (.next .here))))))) | exact .app .in1 | exact .app .in2 | exact .app (.next .in1) | exact .next (.app .in1) | exact .next (.next (.app .in1)) | exact .next (.app .here) | exact .next (.next (.app .here)) | exact .next (.next (.next (.app .here))) | exact .next (.next (.next (.next (.app .here))))) rfl ⟨_, rfl, rfl, rfl⟩ rfl rfl Try.underlying2 rfl rfl (by rfl) ?_
            refine G.call E24 rfl rfl ⟨_, rfl, rfl, rfl⟩ rfl rfl (in_spec W0 _ ao co sl (hrf W0 _).cons (by omega) es[j].2) rfl ?_
            rintro e L2 ⟨rfl, rfl⟩
            first | refine G.notD rfl ⟨_, rfl, rfl, rfl⟩ rfl rfl rfl ?_ | refine G.not rfl ⟨_, rfl, rfl, rfl⟩ rfl rfl rfl ?_
            first | refine G.pickT rfl trivial rfl rfl rfl rfl ?_ | refine G.pickF rfl trivial rfl rfl rfl rfl ?_
            refine G.nil ?_
            refine C.cond _ rfl ?_ ?_
            · intro hc3
              refine C.seq ?_
              refine C.region ?_
              refine G.moveS rfl trivial rfl rfl rfl ?_
              refine G.fieldAddr rfl trivial rfl rfl Try.underlying86 rfl I2 rfl rfl ?_
              refine G.loadAt (by first | exact .here | exact .next .here | exact .next (.next .here) | exact .next (.next (.next .here)) | exact .next (.next (.next (.next .here))) | exact .next (.next (.next (.next (.next .here)))) | exact .next (.next (.next (.next (.next (.next .here))))) | exact .next (.next (.next (.next (.next (.next (.next .here)))))) | exact .in1 | exact .next .in1 | exact .next (.next .in1) | exact .next (.next (.next .in1)) | exact .next (.next (.next (.next .in1))) | exact .in2 | exact .next .in2 | exact .next (.next .in2) | exact .next (.next (.next .in2)) | exact .next (.next (.next (.next .in2))) | exact .app .here | exact .app (.next .here) | exact .app (.next (.next .here)) | exact .app (.next (.next (.next .here))) | exact .app (.next (.next (.next (.next .here)))) | exact .app (.next (.next (.next (.next (.next .here))))) | exact .app (.next (.next (.next (.next (.next (.next .here)))))) | exact .app (.next (.next (.next (.next (.next (.next (.next .here))))))) | exact .app .in1 | exact .app .in2 | exact .app (.next .in1) | exact .next (.app .in1) | exact .next (.next (.app .in1)) | exact .next (.app .here) | exact .next (.next (.app .here)) | exact .next (.next (.next (.app .here))) | exact .next (.next (.next (.next (.app .here))))) rfl trivial rfl rfl Try.underlying2 rfl rfl (by rfl) ?_
              refine G.call E25 rfl rfl trivial rfl rfl (FnS.perm (insert_spec W0 _ _ sl so hon (by omega) es[j].2) P2) rfl ?_
              rintro e L2 ⟨v61, s61, hv61, rfl, rfl⟩
              obtain ⟨a61, c61, rfl, _⟩ := hv61.form
              refine G.assignS rfl trivial rfl rfl rfl ?_
              refine G.nil ?_
              refine C.region ?_
              refine G.assignB rfl trivial rfl rfl rfl ?_
              refine G.nil ?_
              refine C.region ?_
              refine G.moveI rfl trivial rfl rfl rfl ?_
              refine G.addN (j := 1) rfl trivial rfl rfl rfl rfl (by omega) ?_
              refine G.assignI rfl trivial rfl rfl rfl ?_
              refine G.less (fun _ h => h.skip1) ?_
              refine G.nil ?_
              have hli := left_ins hmem hc3
              have hil := insL_length sl es[j].2
              exact ⟨es.length - (j + 1) + 0, by omega, j + 1, insL sl es[j].2, a61, c61, s61, true, rfl, by omega, by omega, by omega, fun _ => by omega, hv61, fun y hy => by rcases (insL_mem _ _ _).1 hy with rfl | hy; exact .step (hrch _ hg51) (gE_mem.2 hmem); exact hrch y hy, fun y hy => (insL_mem _ _ _).2 (.inr (hsub y hy)), fun h => (by cases h), rfl, rfl, rfl, rfl, rfl, rfl, rfl⟩
            · intro hc3
              refine C.skip ?_
              refine C.region ?_
              refine G.moveI rfl trivial rfl rfl rfl ?_
              refine G.addN (j := 1) rfl trivial rfl rfl rfl rfl (by omega) ?_
              refine G.assignI rfl trivial rfl rfl rfl ?_
              refine G.less (fun _ h => h.tail) ?_
              refine G.nil ?_
              exact ⟨es.length - (j + 1) + 0, by omega, j + 1, sl, ao, co, so, more, rfl, by omega, hb2, hle, hlt2, hon, hrch, hsub, fun hm e he h1 h2 => by rw [List.take_succ_eq_append_getElem hlt] at he; rcases List.mem_append.1 he with he | he; exact hclo hm e he h1 h2; rw [List.mem_singleton.1 he] at h1 h2 ⊢; first | exact absurd (Classical.not_not.1 hg45) h1 | exact absurd h2 hg51 | exact Classical.not_not.1 hc3, rfl, rfl, rfl, rfl, rfl, rfl, rfl⟩
          · intro hg51
            refine G.skip rfl rfl rfl rfl rfl rfl ?_
            refine G.skip rfl rfl rfl rfl rfl rfl ?_
            refine G.skip rfl rfl rfl rfl rfl rfl ?_
            refine G.skip rfl rfl rfl rfl rfl rfl ?_
            refine G.skip rfl rfl rfl rfl rfl rfl ?_
            first | refine G.pickT rfl trivial rfl rfl rfl rfl ?_ | refine G.pickF rfl trivial rfl rfl rfl rfl ?_
            refine G.nil ?_
            refine C.condF rfl ?_
            refine C.skip ?_
            refine C.region ?_
            refine G.moveI rfl trivial rfl rfl rfl ?_
            refine G.addN (j := 1) rfl trivial rfl rfl rfl rfl (by omega) ?_
            refine G.assignI rfl trivial rfl rfl rfl ?_
            refine G.less (fun _ h => h.tail) ?_
            refine G.nil ?_
            exact ⟨es.length - (j + 1) + 0, by omega, j + 1, sl, ao, co, so, more, rfl, by omega, hb2, hle, hlt2, hon, hrch, hsub, fun hm e he h1 h2 => by rw [List.take_succ_eq_append_getElem hlt] at he; rcases List.mem_append.1 he with he | he; exact hclo hm e he h1 h2; rw [List.mem_singleton.1 he] at h1 h2 ⊢; first | exact absurd (Classical.not_not.1 hg45) h1 | exact absurd h2 hg51 | exact Classical.not_not.1 hc3, rfl, rfl, rfl, rfl, rfl, rfl, rfl⟩
        · intro hg45
          refine G.skip rfl rfl rfl rfl rfl rfl ?_
          refine G.skip rfl rfl rfl rfl rfl rfl ?_
          refine G.skip rfl rfl rfl rfl rfl rfl ?_
          refine G.skip rfl rfl rfl rfl rfl rfl ?_
          first | refine G.pickT rfl trivial rfl rfl rfl rfl ?_ | refine G.pickF rfl trivial rfl rfl rfl rfl ?_
          refine G.moveB rfl trivial rfl rfl rfl ?_
          refine G.skip rfl rfl rfl rfl rfl rfl ?_
          refine G.skip rfl rfl rfl rfl rfl rfl ?_
          refine G.skip rfl rfl rfl rfl rfl rfl ?_
          refine G.skip rfl rfl rfl rfl rfl rfl ?_
          refine G.skip rfl rfl rfl rfl rfl rfl ?_
          first | refine G.pickT rfl trivial rfl rfl rfl rfl ?_ | refine G.pickF rfl trivial rfl rfl rfl rfl ?_
          refine G.nil ?_
          refine C.condF rfl ?_
          refine C.skip ?_
          refine C.region ?_
          refine G.moveI rfl trivial rfl rfl rfl ?_
          refine G.addN (j := 1) rfl trivial rfl rfl rfl rfl (by omega) ?_
          refine G.assignI rfl trivial rfl rfl rfl ?_
          refine G.less (fun _ h => h.tail) ?_
          refine G.nil ?_
          exact ⟨es.length - (j + 1) + 0, by omega, j + 1, sl, ao, co, so, more, rfl, by omega, hb2, hle, hlt2, hon, hrch, hsub, fun hm e he h1 h2 => by rw [List.take_succ_eq_append_getElem hlt] at he; rcases List.mem_append.1 he with he | he; exact hclo hm e he h1 h2; rw [List.mem_singleton.1 he] at h1 h2 ⊢; first | exact absurd (Classical.not_not.1 hg45) h1 | exact absurd h2 hg51 | exact Classical.not_not.1 hc3, rfl, rfl, rfl, rfl, rfl, rfl, rfl⟩
      · intro hc2
        refine C.exit ?_
        exact ⟨2 * left sl es + (if more = true then 1 else 0) + 0, by cases more; simp; omega; have := hlt2 rfl; simp; omega, sl, ao, co, so, more, rfl, hb2, hon, hrch, hsub, by rwa [List.take_of_length_le (by omega)] at hclo, rfl, rfl, rfl, rfl, rfl, rfl⟩
    · intro hc1
      subst hc1
      refine C.exit ?_
      refine C.seq ?_
      refine C.region ?_
      refine G.moveS rfl trivial rfl rfl rfl ?_
      refine G.moveI rfl trivial rfl rfl rfl ?_
      refine G.call E24 rfl rfl trivial rfl rfl (in_spec W0 _ ao co sl0 (by obtain ⟨af, cf, haf, hrf⟩ := hon.form; cases haf; exact hrf W0 _) (by omega) t) rfl ?_
      rintro e L2 ⟨rfl, rfl⟩
      refine G.assignB rfl trivial rfl rfl rfl ?_
      refine G.nil ?_
      refine C.less (fun _ h => h.tail) ?_
      refine C.ret ?_
      -- end c0Fc1F
      exact ⟨rfl, _, Res.of (rs := [.tmp 6]) rfl rfl, rfl, _, ⟨fun h => hrch _ (of_decide_eq_true h), fun h => decide_eq_true (Classical.byContradiction fun hn => hn (h.closed hsub fun x hx y hy => hclo rfl (x, y) (gE_mem.1 hy) (fun e => hn (by rw [← e]; exact hx)) hx))⟩, rfl⟩
end ref
end Go.Proofs.Ytomiidlbfcfpiaa
