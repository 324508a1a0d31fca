/-
  A region that draws its order: its operations one by one, those that only read taken first (a read is good as long as none of the writers named has come up). No program in sight.
-/
import Derived.Test.YtjfjmhmfhkdcbabSL4
import Derived.OrdersHeld
namespace Go.SL
open Go Go.RowKit

section
variable {P : Program} {ops : Array Oper} {Q : Exit → Act → World → Prop} {md : Region.Mode} {K : World → Prop} {T : List Nat}

/-- one of the writers has come up -/
def hit (T : List Nat) (listed : Array Bool) : Bool := T.any fun t => listed.getD t false
/-- whoever has come up, those ahead of it have -/
def closedT (md : Region.Mode) (ops : Array Oper) (T : List Nat) (listed : Array Bool) : Prop :=
  T = T ∧ ∀ t, listed.getD t false = true → ∀ o, ops[t]? = some o → ∀ e ∈ o.after, Region.binds md e = true → listed.getD e.on false = true
/-- whatever order is picked from here on, and K holds as long as no writer has come up -/
def anyV (P : Program) (md : Region.Mode) (ops : Array Oper) (Q : Exit → Act → World → Prop) (K : World → Prop) (T : List Nat) : Nat → Array Bool → Act → World → Prop
  | 0, listed, a, w => Region.ready md ops listed = [] ∧ Q .normal a w
  | fuel + 1, listed, a, w =>
    (Region.ready md ops listed = [] → Q .normal a w) ∧
    ∀ i ∈ Region.ready md ops listed, wpOp P ops Q i (fun a' w' => (hit T (listed.setIfInBounds i true) = false → K w') ∧ anyV P md ops Q K T fuel (listed.setIfInBounds i true) a' w') a w
theorem wpAny_of_V : ∀ (fuel : Nat) (listed : Array Bool) (a : Act) (w : World), anyV P md ops Q K T fuel listed a w → wpAny P md ops Q fuel listed a w
  | 0, _, _, _, h => h
  | fuel + 1, _, _, _, h => ⟨h.1, fun i hi => wpOp_mono (fun a' w' h' => wpAny_of_V fuel _ a' w' h'.2) (h.2 i hi)⟩
theorem closedT_step {listed : Array Bool} {j : Nat} (h : closedT md ops T listed) (hj : j ∈ Region.ready md ops listed) : closedT md ops T (listed.setIfInBounds j true) := by
  obtain ⟨_, oj, hoj, hall⟩ := mem_ready.1 hj
  refine ⟨rfl, fun t hl o ho e he hb => ?_⟩
  by_cases hjt : j = t
  · subst hjt
    rw [hoj] at ho
    cases ho
    exact getD_set_true (hall e he hb)
  · rw [getD_set_ne false hjt] at hl
    exact getD_set_true (h.2 t hl o ho e he hb)
/-- t waits for i, at once or over others -/
def reaches (md : Region.Mode) (ops : Array Oper) (i : Nat) : Nat → Nat → Bool
  | 0, _ => false
  | k + 1, t => match ops[t]? with | some o => o.after.any (fun e => Region.binds md e && (e.on == i || reaches md ops i k e.on)) | none => false
/-- the writers wait for i -/
def waitT (md : Region.Mode) (ops : Array Oper) (T : List Nat) (i : Nat) : Bool := T.all fun t => reaches md ops i 3 t
theorem reaches_listed {listed : Array Bool} {i : Nat} (hc : closedT md ops T listed) : ∀ (k t : Nat), reaches md ops i k t = true → listed.getD t false = true → listed.getD i false = true
  | 0, _, h, _ => by cases h
  | k + 1, t, h, hl => by
    unfold reaches at h
    cases ho : ops[t]? with
    | none => rw [ho] at h; cases h
    | some o =>
      rw [ho] at h
      obtain ⟨e, he, hb⟩ := Array.any_eq_true'.1 h
      simp only [Bool.and_eq_true, Bool.or_eq_true, beq_iff_eq] at hb
      have h2 := hc.2 t hl o ho e he hb.1
      rcases hb.2 with h3 | h3
      · rwa [h3] at h2
      · exact reaches_listed hc k e.on h3 h2
theorem no_hit {listed : Array Bool} {i : Nat} {oi : Oper} (hi : ops[i]? = some oi) (hw : waitT md ops T i = true) (hc : closedT md ops T listed) (hu : listed.getD i true = false) (hlen : ∀ t ∈ T, t < ops.size) : hit T listed = false := by
  cases hh : hit T listed with
  | false => rfl
  | true =>
    obtain ⟨t, ht, hl⟩ := List.any_eq_true.1 hh
    have h2 := reaches_listed hc 3 t (List.all_eq_true.1 hw t ht) hl
    rcases Nat.lt_or_ge i listed.size with h' | h'
    · simp [h'] at h2 hu; rw [h2] at hu; cases hu
    · simp [Array.getElem?_eq_none h'] at h2
theorem hit_skip {listed : Array Bool} {i : Nat} (h : T.contains i = false) : hit T (listed.setIfInBounds i true) = hit T listed := by
  unfold hit
  have : ∀ t ∈ T, (listed.setIfInBounds i true).getD t false = listed.getD t false := by
    intro t ht
    refine getD_set_ne false ?_
    rintro rfl
    simp [ht] at h
  induction T with
  | nil => rfl
  | cons t T ih =>
    simp only [List.any_cons]
    rw [this t (by simp), ih (by simp at h ⊢; exact h.2) (fun t ht => this t (by simp [ht]))]
theorem anyV_first {i : Nat} {oi : Oper} {v : Value} (hi : ops[i]? = some oi) (hsel : ∀ (j : Nat) (o : Oper) cs b, ops[j]? = some o → o.op ≠ .select cs b)
    (hQ : ∀ c a w, Q (.panic c) (a.put oi.dst v) w → Q (.panic c) a w) (hiT : T.contains i = false) (S : World → Prop) (hS : ∀ listed w, listed.getD i true = false → closedT md ops T listed → (hit T listed = false → K w) → S w) :
    ∀ (fuel : Nat) (listed : Array Bool) (a : Act) (w : World),
      (∀ j oj, ops[j]? = some oj → j ≠ i → listed.getD j true = false → (∀ e ∈ oj.after, Region.binds md e = true → e.on ≠ i) → oi.apart ops oj = true) →
      i ∈ Region.ready md ops listed → YieldsIf P ops S oi v a → closedT md ops T listed → (hit T listed = false → K w) →
      anyV P md ops Q K T fuel (listed.setIfInBounds i true) (a.put oi.dst v) w → anyV P md ops Q K T (fuel + 1) listed a w := by
  intro fuel
  induction fuel with
  | zero =>
    intro listed a w _ hr hy hcl hk H
    refine ⟨fun h => (by rw [h] at hr; cases hr), fun j hj => ?_⟩
    by_cases hji : j = i
    · subst hji
      refine hy.wpOp hi (hS listed w (mem_ready.1 hr).1 hcl hk) ⟨fun hh => hk (by rwa [hit_skip hiT] at hh), H⟩
    · have := ready_mono hj hji
      rw [H.1] at this
      cases this
  | succ fuel ih =>
    intro listed a w hfree hr hy hcl hk H
    refine ⟨fun h => (by rw [h] at hr; cases hr), fun j hj => ?_⟩
    by_cases hji : j = i
    · subst hji
      exact hy.wpOp hi (hS listed w (mem_ready.1 hr).1 hcl hk) ⟨fun hh => hk (by rwa [hit_skip hiT] at hh), H⟩
    · have h1 := H.2 j (ready_mono hj hji)
      obtain ⟨hjun, oj, hoj, hall⟩ := mem_ready.1 hj
      have hnot : ∀ e ∈ oj.after, Region.binds md e = true → e.on ≠ i := fun e he hb heq => by
        have h1 := hall e he hb
        have h0 := (mem_ready.1 hr).1
        rw [heq] at h1
        rcases Nat.lt_or_ge i listed.size with h' | h'
        · simp [h'] at h0 h1; rw [h0] at h1; cases h1
        · simp [Array.getElem?_eq_none h'] at h1
      have h2 := wpOp_putIf hoj (hfree j oj hoj hji hjun hnot) (fun cs b => hsel i oi cs b hi) (fun cs b => hsel j oj cs b hoj) hQ hy h1
      have hfree' : ∀ k ok, ops[k]? = some ok → k ≠ i → (listed.setIfInBounds j true).getD k true = false →
          (∀ e ∈ ok.after, Region.binds md e = true → e.on ≠ i) → oi.apart ops ok = true := fun k ok hk hki hun hno => by
        refine hfree k ok hk hki ?_ hno
        by_cases hjk : j = k
        · subst hjk; exact hjun
        · rw [getD_set_ne true hjk] at hun; exact hun
      refine wpOp_mono (fun a' w' h3 => ?_) h2
      have hk' : hit T (listed.setIfInBounds j true) = false → K w' := fun hh => h3.2.1 (by rw [Array.setIfInBounds_comm _ _ (Ne.symm hji), hit_skip hiT]; exact hh)
      refine ⟨hk', ih (listed.setIfInBounds j true) a' w' hfree' (ready_mono hr (Ne.symm hji)) h3.1 (closedT_step hcl hj) hk' ?_⟩
      rw [Array.setIfInBounds_comm _ _ hji]
      exact h3.2.2
end

/-! ### The walk's judgement -/
def GA (P : Program) (W0 : World) (n : Nat) (SQ : SPost) (ops : Array Oper) (K : List Seg) (T : List Nat) (fuel : Nat) (listed : Array Bool) (F : Nat → Value) (D : List Deferred) (L : List Seg) : Prop :=
  ∀ a w, Sl n a F → a.defers = D → Mem W0 w L → closedT .any ops T listed → (hit T listed = false → Mem W0 w K) → anyV P .any ops (lift W0 n SQ) (fun w => Mem W0 w K) T fuel listed a w
/-- a panic's post does not look at the slots -/
def NoF (SQ : SPost) : Prop := ∀ c F F' D L, SQ (.panic c) F D L → SQ (.panic c) F' D L
section
variable {P : Program} {W0 : World} {n : Nat} {SQ : SPost} {F : Nat → Value} {D : List Deferred} {L : List Seg} {ops : Array Oper} {K : List Seg} {T : List Nat} {listed : Array Bool} {fuel : Nat}
theorem C.drawn {id : Nat} {l : List Oper} (hm : P.follows .mixedOrders = true) (K : List Seg) (T : List Nat) (hK : ∀ w, Mem W0 w L → Mem W0 w K) (h : GA P W0 n SQ l.toArray K T l.length (Array.replicate l.length false) F D L) : C P W0 n SQ (.region id l.toArray true) F D L := by
  intro a w hs hd hmem
  refine wp_region_any hm (wpAny_of_V (K := fun w => Mem W0 w K) (T := T) _ _ _ _ ?_)
  have := h a w.drew hs hd hmem.drew ?_ (fun _ => hK _ hmem.drew)
  · simpa using this
  · refine ⟨rfl, fun t ht => ?_⟩
    simp [Array.getElem?_replicate] at ht
    split at ht <;> simp at ht
theorem hQ_of {i : Option Nat} {v : Value} (hf : NoF SQ) : ∀ c (a : Act) w, lift W0 n SQ (.panic c) (a.put i v) w → lift W0 n SQ (.panic c) a w := by
  rintro c a w ⟨F, L, h1, h2, h3⟩
  refine ⟨fun t => a.tmps.getD t undef, L, ⟨?_, fun _ => rfl⟩, h2, ?_⟩
  · rw [← h1.size]
    cases i <;> simp [Act.put]
  · rw [put_defers] at h3
    exact hf _ _ _ _ _ h3
/-- one that yields its value whatever the world is -/
theorem GA.pure {i : Nat} {o : Oper} {v : Value} {d : Nat} (hf : NoF SQ) (hi : ops[i]? = some o) (hb : (Region.noSelect ops && Region.free .any ops listed i && (Region.ready .any ops listed).contains i && !T.contains i) = true)
    (hr : runs n ops F o) (hd : o.dst = some d) (hn : Nat.blt d n = true) (hy : ∀ w, (execOp (ev F) o).run P w = .ok (.value v) w) (listed' : Array Bool) (hl : listed.setIfInBounds i true = listed')
    (k : GA P W0 n SQ ops K T fuel listed' (upd F d v) D L) : GA P W0 n SQ ops K T (fuel + 1) listed F D L := by
  intro a w hs hD hmem hc hk
  simp only [Bool.and_eq_true, Bool.not_eq_true'] at hb
  obtain ⟨⟨⟨h1, h2⟩, h3⟩, h4⟩ := hb
  subst hl
  have hr' := hr
  refine anyV_first hi (Region.noSelect_spec h1) (hQ_of hf) h4 (fun _ => True) (fun _ _ _ _ _ => trivial) fuel listed a w (Region.free_spec hi h2) (by simpa using h3) (.inl ⟨wanted_of hs hr, fun w _ => by rw [hs.eval_fun]; exact hy w⟩) hc hk ?_
  exact k _ w (hs.put hd hn v) (by rw [put_defers]; exact hD) hmem (closedT_step hc (by simpa using h3)) (fun hh => hk (by rwa [hit_skip h4] at hh))
/-- one that reads what K tells: the writers wait for it -/
theorem GA.read {i : Nat} {o : Oper} {v : Value} {d : Nat} (hf : NoF SQ) (hi : ops[i]? = some o) (hb : (Region.noSelect ops && Region.free .any ops listed i && (Region.ready .any ops listed).contains i && !T.contains i) = true)
    (hT : (waitT .any ops T i && T.all (fun t => Nat.blt t ops.size)) = true) (hr : runs n ops F o) (hd : o.dst = some d) (hn : Nat.blt d n = true) (hy : ∀ w, Mem W0 w K → (execOp (ev F) o).run P w = .ok (.value v) w) (listed' : Array Bool) (hl : listed.setIfInBounds i true = listed')
    (k : GA P W0 n SQ ops K T fuel listed' (upd F d v) D L) : GA P W0 n SQ ops K T (fuel + 1) listed F D L := by
  intro a w hs hD hmem hc hk
  simp only [Bool.and_eq_true, Bool.not_eq_true'] at hb hT
  obtain ⟨⟨⟨h1, h2⟩, h3⟩, h4⟩ := hb
  obtain ⟨h5, h6⟩ := hT
  have h6' : ∀ t ∈ T, t < ops.size := fun t ht => Nat.le_of_ble_eq_true (List.all_eq_true.1 h6 t ht)
  subst hl
  refine anyV_first hi (Region.noSelect_spec h1) (hQ_of hf) h4 (fun w => Mem W0 w K) (fun listed w hu hc hk => hk (no_hit hi h5 hc hu h6')) fuel listed a w (Region.free_spec hi h2) (by simpa using h3) (.inl ⟨wanted_of hs hr, fun w hw => by rw [hs.eval_fun]; exact hy w hw⟩) hc hk ?_
  exact k _ w (hs.put hd hn v) (by rw [put_defers]; exact hD) hmem (closedT_step hc (by simpa using h3)) (fun hh => hk (by rwa [hit_skip h4] at hh))
/-- one that its guard does not let -/
theorem GA.skip {i j t : Nat} {o : Oper} {d : Nat} {b : Bool} (hf : NoF SQ) (hi : ops[i]? = some o) (hb : (Region.noSelect ops && Region.free .any ops listed i && (Region.ready .any ops listed).contains i && !T.contains i) = true)
    (hg : o.guard = some (j, b)) (h1 : (ops[j]?).bind (·.dst) = some t) (h2 : Nat.blt t n = true) (h3 : F t = .bool !b) (hd : o.dst = some d) (hn : Nat.blt d n = true) (listed' : Array Bool) (hl : listed.setIfInBounds i true = listed')
    (k : GA P W0 n SQ ops K T fuel listed' (upd F d undef) D L) : GA P W0 n SQ ops K T (fuel + 1) listed F D L := by
  intro a w hs hD hmem hc hk
  simp only [Bool.and_eq_true, Bool.not_eq_true'] at hb
  obtain ⟨⟨⟨e1, e2⟩, e3⟩, e4⟩ := hb
  subst hl
  have hw : Region.wanted o (yielded ops a.tmps) = false := by
    unfold Region.wanted
    rw [hg]
    simp only [yielded_of hs h1 h2 h3]
    cases b <;> rfl
  refine anyV_first hi (Region.noSelect_spec e1) (hQ_of hf) e4 (fun _ => True) (fun _ _ _ _ _ => trivial) fuel listed a w (Region.free_spec hi e2) (by simpa using e3) (.inr ⟨hw, rfl⟩) hc hk ?_
  exact k _ w (hs.put hd hn undef) (by rw [put_defers]; exact hD) hmem (closedT_step hc (by simpa using e3)) (fun hh => hk (by rwa [hit_skip e4] at hh))
/-- the only one that may come up: by any rule of a plain region -/
theorem GA.one {i : Nat} {o : Oper} (hi : ops[i]? = some o) (hrd : Region.ready .any ops listed = [i]) (listed' : Array Bool) (hl : listed.setIfInBounds i true = listed')
    (k : G P W0 n (SPost.seq (fun F D L => (∀ w, hit T listed' = false → Mem W0 w L → Mem W0 w K) ∧ GA P W0 n SQ ops K T fuel listed' F D L) SQ) ops [o] F D L) : GA P W0 n SQ ops K T (fuel + 1) listed F D L := by
  intro a w hs hD hmem hc hk
  subst hl
  refine ⟨fun h => absurd (hrd.symm.trans h) (by simp), fun j hj => ?_⟩
  have hj' := hj
  rw [hrd, List.mem_singleton] at hj
  subst hj
  have h1 := k a w hs hD hmem
  have hc' := closedT_step hc hj'
  have hnx : ∀ a' w', wpList P ops (lift W0 n (SPost.seq (fun F D L => (∀ w, hit T (listed.setIfInBounds j true) = false → Mem W0 w L → Mem W0 w K) ∧ GA P W0 n SQ ops K T fuel (listed.setIfInBounds j true) F D L) SQ)) [] a' w' →
      (hit T (listed.setIfInBounds j true) = false → Mem W0 w' K) ∧ anyV P .any ops (lift W0 n SQ) (fun w => Mem W0 w K) T fuel (listed.setIfInBounds j true) a' w' := by
    rintro a' w' ⟨F', L', q1, q2, q3, q4⟩
    exact ⟨fun hh => q3 w' hh q2, q4 a' w' q1 rfl q2 hc' (fun hh => q3 w' hh q2)⟩
  have hpost : ∀ e a' w', e ≠ .normal → lift W0 n (SPost.seq (fun F D L => (∀ w, hit T (listed.setIfInBounds j true) = false → Mem W0 w L → Mem W0 w K) ∧ GA P W0 n SQ ops K T fuel (listed.setIfInBounds j true) F D L) SQ) e a' w' → lift W0 n SQ e a' w' := by
    rintro e a' w' hne ⟨F', L', q1, q2, q3⟩
    refine ⟨F', L', q1, q2, ?_⟩
    cases e <;> first | exact absurd rfl hne | exact q3
  unfold wpList at h1
  unfold wpOp
  rw [hi]
  split at h1
  · rename_i hw
    simp only [hw, if_true]
    rcases h1 with h1 | ⟨h1, h2⟩
    · refine .inl ?_
      unfold Oper.wp at h1 ⊢
      generalize (execOp a.eval o).run P w = r at h1 ⊢
      cases r with
      | ok x w' =>
        cases x <;> simp only [Oper.upon] at h1 ⊢
        case value u => exact hnx _ _ h1
        case skip => exact hnx _ _ h1
        case defer d => exact hnx _ _ h1
        case enter f args =>
          refine Calls.mono h1 fun e w'' he => ?_
          cases e with
          | returned u => exact hnx _ _ he
          | panicked c => exact hpost _ _ _ (by simp) he
          | outgrown =>
            obtain ⟨a0, w0, he⟩ := he
            exact ⟨a0, w0, hpost _ _ _ (by simp) he⟩
        case row row args => exact Rows.mono h1 fun u w'' he => hnx _ _ he
      | halt x w' =>
        cases x <;> simp only [Oper.upon] at h1 ⊢
        case panic u => exact hpost _ _ _ (by simp) h1
    · obtain ⟨a0, w0, he⟩ := h2
      exact .inr ⟨h1, a0, w0, hpost _ _ _ (by simp) he⟩
  · rename_i hw
    simp only [hw]
    exact hnx _ _ h1
theorem GA.done (hrd : Region.ready .any ops listed = []) (h : SQ .normal F D L) : GA P W0 n SQ ops K T fuel listed F D L := by
  intro a w hs hD hmem _ _
  have hq : lift W0 n SQ .normal a w := ⟨F, L, hs, hmem, hD ▸ h⟩
  cases fuel with
  | zero => exact ⟨hrd, hq⟩
  | succ fuel => exact ⟨fun _ => hq, by rw [hrd]; simp⟩
theorem GA.fork {t : Nat} (p : Prop) [Decidable p] (h : F t = .bool (decide p)) (ht : p → GA P W0 n SQ ops K T fuel listed (upd F t (.bool true)) D L) (hf : ¬ p → GA P W0 n SQ ops K T fuel listed (upd F t (.bool false)) D L) : GA P W0 n SQ ops K T fuel listed F D L := by
  by_cases hp : p
  · have := ht hp
    rwa [upd_eq (by rw [h, decide_eq_true hp])] at this
  · have := hf hp
    rwa [upd_eq (by rw [h, decide_eq_false hp])] at this
theorem GA.forkB {t : Nat} (b : Bool) (h : F t = .bool b) (ht : b = true → GA P W0 n SQ ops K T fuel listed (upd F t (.bool true)) D L) (hf : b = false → GA P W0 n SQ ops K T fuel listed (upd F t (.bool false)) D L) : GA P W0 n SQ ops K T fuel listed F D L := by
  cases b with
  | true => have := ht rfl; rwa [upd_eq h] at this
  | false => have := hf rfl; rwa [upd_eq h] at this
theorem GA.yes {t : Nat} {p : Prop} [Decidable p] (h : F t = .bool (decide p)) (hp : p) (k : GA P W0 n SQ ops K T fuel listed (upd F t (.bool true)) D L) : GA P W0 n SQ ops K T fuel listed F D L := by
  rwa [upd_eq (by rw [h, decide_eq_true hp])] at k
theorem GA.no {t : Nat} {p : Prop} [Decidable p] (h : F t = .bool (decide p)) (hp : ¬ p) (k : GA P W0 n SQ ops K T fuel listed (upd F t (.bool false)) D L) : GA P W0 n SQ ops K T fuel listed F D L := by
  rwa [upd_eq (by rw [h, decide_eq_false hp])] at k
theorem GA.fix {d : Nat} {v : Value} (h : F d = v) (k : GA P W0 n SQ ops K T fuel listed (upd F d v) D L) : GA P W0 n SQ ops K T fuel listed F D L := by
  rwa [upd_eq h] at k
end
end Go.SL
