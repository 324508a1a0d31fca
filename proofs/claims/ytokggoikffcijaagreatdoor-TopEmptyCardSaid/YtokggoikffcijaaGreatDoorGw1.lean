/-
  Waits cleared where nobody waits: a native of the evaluator.
-/
import Derived.Test.YtokggoikffcijaaGreatDoorGw0
import Derived.Test.YtokggoikffcijaaGreatDoorK4
namespace Go.Proofs.YtokggoikffcijaaGreatDoor
open Go Go.SL Go.RowKit Go.Ev
noncomputable section
section
variable {W0 w w' : World} {φ : Phi} {h : Hp}
/-- blocks that a call left as they were, two of them told by what they hold -/
theorem again2 (hs : Sm W0 φ h w) {a b : Ev.Id} {oa ob : HO} {A B : Bk} (ga : PT.get a h.mem = some oa) (gb : PT.get b h.mem = some ob) (ha : φ a = some A) (hb : φ b = some B) {L : List Seg} (hm : Mem W0 w' L) (hsub : ∀ p ∈ others W0 w [A.b, B.b], p ∈ L.flatten)
    (h1 : ORel φ w' A oa) (h2 : ORel φ w' B ob) : Sm W0 φ h w' :=
  (hs.recast (w' := w') hm.below h.mem (fun _ _ => rfl) fun a' o' B' ha' hg => by
    refine ⟨⟨_, hg⟩, ?_⟩
    by_cases e1 : a' = a
    · subst e1
      rw [ha] at ha'; cases ha'
      rw [ga] at hg; cases hg
      exact h1
    · by_cases e2 : a' = b
      · subst e2
        rw [hb] at ha'; cases ha'
        rw [gb] at hg; cases hg
        exact h2
      · have k1 := hs.apart a' a o' _ B' A hg ga ha' ha e1
        have k2 := hs.apart a' b o' _ B' B hg gb ha' hb e2
        obtain ⟨_, k3⟩ := hs.own a' o' B' hg ha'
        exact k3.mono (Ext.refl φ) (same_of hs.below hm (S := [A.b, B.b]) hsub k3.lt (by simp [k1, k2]))).1
def clearN (_hd : Hd) (args : List V) (h : Hp) : Ox := match args with
  | [.p a 0, .i .i64 _] => match PT.get a h.mem with
    | some (.row t _ c) => ite' (Bool.and (Nat.beq t 268) (Nat.beq (T.size c) 1)) (elM (T.get c 0) (.no 770) fun b => ite' (Id.beq a b) (.no 771) (match PT.get b h.mem with
      | some (.mp .i64 [] _) => .val (.tu []) h
      | _ => .no 772)) (.no 773)
    | _ => .no 774
  | _ => .no 775
theorem clearN_ok (hd : Hd) (args : List V) (h : Hp) (φ : Phi) (w : World) (argsR : List Value) (hs : Sm W0 φ h w) (hl : LR φ args argsR) : CallOK Tryz.prog W0 φ h w 264 argsR.toArray (clearN hd args h) := by
  unfold clearN
  split
  · rename_i a z
    obtain ⟨x, y, rfl, hx, hy⟩ := hl.two
    obtain rfl := hy.i
    obtain ⟨A, ha, hx⟩ := hx.p
    split
    · rename_i t s c hga
      cases h1 : Bool.and (Nat.beq t 268) (Nat.beq (T.size c) 1) with
      | false => trivial
      | true =>
        simp only [Bool.and_eq_true] at h1
        have ht := Nat.eq_of_beq_eq_true h1.1
        have hsz := Nat.eq_of_beq_eq_true h1.2
        subst ht
        have hf := hs.flat hga ha (by decide)
        rw [hf] at hx
        subst hx
        obtain ⟨pre, xs, p1, p2, p3, p4, p5, p6⟩ := hs.row hga ha
        obtain rfl : pre = [] := List.eq_nil_of_length_eq_zero (by rw [p1]; exact hf)
        rw [hsz] at p5
        match xs, p5 with
        | [v0], _ =>
          obtain ⟨y0, e0, r0⟩ := TR.get p3 (i := 0) (by simp)
          simp at e0
          subst e0
          show CallOK Tryz.prog W0 φ h w _ _ (elM (T.get c 0) _ _)
          cases hv0 : T.get c 0 <;> try trivial
          rename_i b
          rw [hv0] at r0
          unfold VR at r0
          obtain ⟨B, hb, rfl⟩ := r0
          show CallOK Tryz.prog W0 φ h w _ _ (ite' (Id.beq a b) _ _)
          cases h3 : Id.beq a b with
          | true => trivial
          | false =>
            have hne : a ≠ b := fun e => by rw [Id.beq_iff.2 e] at h3; cases h3
            show CallOK Tryz.prog W0 φ h w _ _ (match PT.get b h.mem with | some (.mp .i64 [] _) => _ | _ => _)
            split
            · rename_i ck hgb
              obtain ⟨_, es', q1, q2⟩ := hs.own _ _ _ hgb hb
              have q1 : es' = [] := q1
              subst q1
              have hm0 := hs.mem2 hne hga hgb ha hb (s1 := .row [.map (some B.b)] 268 A.k) (s2 := mapO .i64 [] ck) (by simpa using p2) q2
              have key := clear_empty W0 [others W0 w [A.b, B.b]] A.b B.b ck A.k z
              have hm1 : Mem W0 w ([(A.b, .row [.map (some B.b)] 268 A.k)] :: [(B.b, mapO .i64 [] ck)] :: [others W0 w [A.b, B.b]]) := hm0.of_flat (by simp)
              refine (key w hm1).mono ?_
              rintro e w' ⟨L', hm', i1, i2, rfl, rfl⟩
              have g1 := hm'.get (b := A.b) (.next (.next .here))
              have g2 := hm'.get (b := B.b) (.next (.next (.next .here)))
              have hs' := again2 hs hga hgb ha hb hm' (fun p hp => by simp [hp]) ⟨⟨p6, .inr hf⟩, [], _, hf.symm, g1.2, p3, p4⟩ ⟨[], rfl, g2.2⟩
              exact ⟨φ, _, rfl, St.refl _ _, hs', VR.tu0 _⟩
            · trivial
    · trivial
  · trivial
end
end
end Go.Proofs.YtokggoikffcijaaGreatDoor
