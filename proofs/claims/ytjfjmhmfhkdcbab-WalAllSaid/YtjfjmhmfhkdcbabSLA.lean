/-
  Regions that draw their order, where several may come up: each is followed.
-/
import Derived.Test.YtjfjmhmfhkdcbabSL5
namespace Go.SL
open Go Go.RowKit

section
variable {P : Program} {W0 : World} {n : Nat} {SQ : SPost} {F : Nat → Value} {D : List Deferred} {L : List Seg} {ops : Array Oper} {K : List Seg} {T : List Nat} {listed : Array Bool} {fuel : Nat}
theorem GA.each {is : List Nat} (hrd : Region.ready .any ops listed = is) (hne : is ≠ [])
    (h : ∀ i ∈ is, ∃ o, ops[i]? = some o ∧ G P W0 n (SPost.seq (fun F D L => (∀ w, hit T (listed.setIfInBounds i true) = false → Mem W0 w L → Mem W0 w K) ∧ GA P W0 n SQ ops K T fuel (listed.setIfInBounds i true) F D L) SQ) ops [o] F D L) : GA P W0 n SQ ops K T (fuel + 1) listed F D L := by
  intro a w hs hD hmem hc hk
  refine ⟨fun h => absurd (hrd.symm.trans h) hne, fun j hj => ?_⟩
  have hj' := hj
  rw [hrd] at hj
  obtain ⟨o, hi, k⟩ := h j hj
  have h1 := k a w hs hD hmem
  have hc' := closedT_step hc hj'
  have hnx : ∀ a' w', wpList P ops (lift W0 n (SPost.seq (fun F D L => (∀ w, hit T (listed.setIfInBounds j true) = false → Mem W0 w L → Mem W0 w K) ∧ GA P W0 n SQ ops K T fuel (listed.setIfInBounds j true) F D L) SQ)) [] a' w' →
      (hit T (listed.setIfInBounds j true) = false → Mem W0 w' K) ∧ anyV P .any ops (lift W0 n SQ) (fun w => Mem W0 w K) T fuel (listed.setIfInBounds j true) a' w' := by
    rintro a' w' ⟨F', L', q1, q2, q3, q4⟩
    exact ⟨fun hh => q3 w' hh q2, q4 a' w' q1 rfl q2 hc' (fun hh => q3 w' hh q2)⟩
  have hpost : ∀ e a' w', e ≠ .normal → lift W0 n (SPost.seq (fun F D L => (∀ w, hit T (listed.setIfInBounds j true) = false → Mem W0 w L → Mem W0 w K) ∧ GA P W0 n SQ ops K T fuel (listed.setIfInBounds j true) F D L) SQ) e a' w' → lift W0 n SQ e a' w' := by
    rintro e a' w' hne ⟨F', L', q1, q2, q3⟩
    refine ⟨F', L', q1, q2, ?_⟩
    cases e <;> first | exact absurd rfl hne | exact q3
  unfold wpList at h1
  unfold wpOp
  rw [hi]
  split at h1
  · rename_i hw
    simp only [hw, if_true]
    rcases h1 with h1 | ⟨h1, h2⟩
    · refine .inl ?_
      unfold Oper.wp at h1 ⊢
      generalize (execOp a.eval o).run P w = r at h1 ⊢
      cases r with
      | ok x w' =>
        cases x <;> simp only [Oper.upon] at h1 ⊢
        case value u => exact hnx _ _ h1
        case skip => exact hnx _ _ h1
        case defer d => exact hnx _ _ h1
        case enter f args =>
          refine Calls.mono h1 fun e w'' he => ?_
          cases e with
          | returned u => exact hnx _ _ he
          | panicked c => exact hpost _ _ _ (by simp) he
          | outgrown =>
            obtain ⟨a0, w0, he⟩ := he
            exact ⟨a0, w0, hpost _ _ _ (by simp) he⟩
        case row row args => exact Rows.mono h1 fun u w'' he => hnx _ _ he
      | halt x w' =>
        cases x <;> simp only [Oper.upon] at h1 ⊢
        case panic u => exact hpost _ _ _ (by simp) h1
    · obtain ⟨a0, w0, he⟩ := h2
      exact .inr ⟨h1, a0, w0, hpost _ _ _ (by simp) he⟩
  · rename_i hw
    simp only [hw]
    exact hnx _ _ h1
theorem GA.two {i j : Nat} {oi oj : Oper} (hrd : Region.ready .any ops listed = [i, j]) (hi : ops[i]? = some oi) (hj : ops[j]? = some oj) (li lj : Array Bool) (hli : listed.setIfInBounds i true = li) (hlj : listed.setIfInBounds j true = lj)
    (ki : G P W0 n (SPost.seq (fun F D L => (∀ w, hit T li = false → Mem W0 w L → Mem W0 w K) ∧ GA P W0 n SQ ops K T fuel li F D L) SQ) ops [oi] F D L)
    (kj : G P W0 n (SPost.seq (fun F D L => (∀ w, hit T lj = false → Mem W0 w L → Mem W0 w K) ∧ GA P W0 n SQ ops K T fuel lj F D L) SQ) ops [oj] F D L) : GA P W0 n SQ ops K T (fuel + 1) listed F D L := by
  subst hli hlj
  refine GA.each hrd (by simp) fun k hk => ?_
  simp only [List.mem_cons, List.not_mem_nil, or_false] at hk
  rcases hk with rfl | rfl
  · exact ⟨oi, hi, ki⟩
  · exact ⟨oj, hj, kj⟩
theorem GA.three {i j l : Nat} {oi oj ol : Oper} (hrd : Region.ready .any ops listed = [i, j, l]) (hi : ops[i]? = some oi) (hj : ops[j]? = some oj) (hl : ops[l]? = some ol) (li lj ll : Array Bool) (hli : listed.setIfInBounds i true = li) (hlj : listed.setIfInBounds j true = lj) (hll : listed.setIfInBounds l true = ll)
    (ki : G P W0 n (SPost.seq (fun F D L => (∀ w, hit T li = false → Mem W0 w L → Mem W0 w K) ∧ GA P W0 n SQ ops K T fuel li F D L) SQ) ops [oi] F D L)
    (kj : G P W0 n (SPost.seq (fun F D L => (∀ w, hit T lj = false → Mem W0 w L → Mem W0 w K) ∧ GA P W0 n SQ ops K T fuel lj F D L) SQ) ops [oj] F D L)
    (kl : G P W0 n (SPost.seq (fun F D L => (∀ w, hit T ll = false → Mem W0 w L → Mem W0 w K) ∧ GA P W0 n SQ ops K T fuel ll F D L) SQ) ops [ol] F D L) : GA P W0 n SQ ops K T (fuel + 1) listed F D L := by
  subst hli hlj hll
  refine GA.each hrd (by simp) fun k hk => ?_
  simp only [List.mem_cons, List.not_mem_nil, or_false] at hk
  rcases hk with rfl | rfl | rfl
  · exact ⟨oi, hi, ki⟩
  · exact ⟨oj, hj, kj⟩
  · exact ⟨ol, hl, kl⟩
theorem GA.less {L' : List Seg} (hs : ∀ w, Mem W0 w L → Mem W0 w L') (k : GA P W0 n SQ ops K T fuel listed F D L') : GA P W0 n SQ ops K T fuel listed F D L := fun a w h1 h2 hm => k a w h1 h2 (hs w hm)
end
end Go.SL
