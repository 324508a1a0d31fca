/-
  slices.Insert of a cell of the tree as a native of the evaluator.
-/
import Derived.Test.YtokggoikffcijaaGreatDoorGi0
import Derived.Test.YtokggoikffcijaaGreatDoorK4
namespace Go.Proofs.YtokggoikffcijaaGreatDoor
open Go Go.SL Go.RowKit Go.Ev
noncomputable section
section
variable {W0 w w' : World} {φ : Phi} {h : Hp} {env : Ev.Env}
def insV (a : Ev.Id) (n i : Nat) (c c2 : T V) (h : Hp) : Ox := .val (.sl h.next 0 (n + 1) none) ⟨h.next.succ, PT.set h.next (some (.row 173 8 (T.cat (T.cat (T.sub c 0 (i * 8)) c2) (T.sub c (i * 8) ((n - i) * 8))))) (PT.set a none h.mem)⟩
def insQ (a b : Ev.Id) (n i : Nat) (t s : Nat) (c : T V) (t2 : Nat) (c2 : T V) : Bool :=
  Bool.and (Bool.and (Bool.and (Nat.blt i n) (Nat.ble n 1000000)) (Bool.and (Nat.beq t 173) (Nat.beq s 8))) (Bool.and (Bool.and (Nat.beq (T.size c) (n * 8)) (Nat.beq t2 173)) (Bool.and (Nat.beq (T.size c2) 8) (Bool.not (Id.beq a b))))
def insN (env : Ev.Env) (hd : Hd) (args : List V) (h : Hp) : Ox := match args with
  | [.sl a 0 n none, .i .i64 (.ofNat i), .sl b 0 1 capv] => match PT.get a h.mem with
    | some (.row t s c) => match PT.get b h.mem with
      | some (.row t2 _ c2) => ite' (insQ a b n i t s c t2 c2) (insV a n i c c2 h) (textF Tryz.prog env 353 hd [.sl a 0 n none, .i .i64 (.ofNat i), .sl b 0 1 capv] h)
      | _ => .no 820
    | _ => .no 821
  | args => textF Tryz.prog env 353 hd args h
theorem LR.three {φ : Phi} {x y z : V} {vs : List Value} (h : LR φ [x, y, z] vs) : ∃ u v t, vs = [u, v, t] ∧ VR φ x u ∧ VR φ y v ∧ VR φ z t := by
  unfold LR at h
  obtain ⟨u, us, rfl, h1, h2⟩ := h
  obtain ⟨v, t, rfl, h3, h4⟩ := LR.two h2
  exact ⟨u, v, t, rfl, h1, h3, h4⟩
theorem insN_ok (he : EnvOK Tryz.prog env) (hmx : Tryz.prog.follows .mixedOrders = true) (hd : Hd) (hhd : HdOK Tryz.prog W0 hd) (args : List V) (h : Hp) (φ : Phi) (w : World) (argsR : List Value) (hs : Sm W0 φ h w) (hl : LR φ args argsR) :
    CallOK Tryz.prog W0 φ h w 353 argsR.toArray (insN env hd args h) := by
  have key : NatOK Tryz.prog W0 353 (textF Tryz.prog env 353) := @textF_ok Tryz.prog env he hmx W0 353
  unfold insN
  generalize textF Tryz.prog env 353 = g at key
  split
  · rename_i a n i b capv
    split
    · rename_i t s c hga
      split
      · rename_i t2 s2 c2 hgb
        generalize hq : insQ a b n i t s c t2 c2 = q
        cases q with
        | false =>
          exact key hd hhd _ h φ w argsR hs hl
        | true =>
          unfold insQ at hq
          simp only [Bool.and_eq_true, Bool.not_eq_true'] at hq
          obtain ⟨⟨⟨k1, k2⟩, k3, k4⟩, ⟨k5, k6⟩, k7, k8⟩ := hq
          have k1 : i < n := Nat.le_of_ble_eq_true k1
          have k2 := Nat.le_of_ble_eq_true k2
          have k3 := Nat.eq_of_beq_eq_true k3
          have k4 := Nat.eq_of_beq_eq_true k4
          have k5 := Nat.eq_of_beq_eq_true k5
          have k6 := Nat.eq_of_beq_eq_true k6
          have k7 := Nat.eq_of_beq_eq_true k7
          have hne : a ≠ b := fun e => by rw [Id.beq_iff.2 e] at k8; cases k8
          subst k3 k4 k6
          obtain ⟨x, y, z, rfl, hx, hy, hz⟩ := LR.three hl
          obtain rfl := hy.i
          obtain ⟨A, ha, pa, ca, rfl, a1, a2, a3, a4⟩ := hx.sl
          obtain ⟨B, hb, pb, cb, rfl, b1, b2, _⟩ := hz.sl
          have hfa := hs.flat hga ha (by decide)
          have hfb := hs.flat hgb hb (by decide)
          have a2 : pa = ⟨A.b, 0, none⟩ := by
            rcases a2 with a2 | a2
            · rw [a2, hfa]
            · omega
          have b2 : pb = ⟨B.b, 0, none⟩ := by
            rcases b2 with b2 | b2
            · rw [b2, hfb]
            · omega
          subst a2 b2
          obtain ⟨pre, xs, p1, p2, p3, p4, p5, p6⟩ := hs.row hga ha
          obtain rfl : pre = [] := List.eq_nil_of_length_eq_zero (by rw [p1]; exact hfa)
          obtain ⟨pre2, vs, q1, q2, q3, q4, q5, q6⟩ := hs.row hgb hb
          obtain rfl : pre2 = [] := List.eq_nil_of_length_eq_zero (by rw [q1]; exact hfb)
          have hck : ca * 8 = A.k := by
            have a4 : A.base + 0 + ca * A.sz = A.k := a4 rfl
            rw [hfa, ← p6] at a4
            omega
          have hkv : 0 < B.k := by
            obtain ⟨r, fr, _, z2, _⟩ := q2
            rw [List.nil_append, List.length_append] at z2
            omega
          have hap := hs.apart a b _ _ A B hga hgb ha hb hne
          have hm0 := hs.mem2 hne hga hgb ha hb (s1 := .row xs 173 A.k) (s2 := .row vs 173 B.k) (by simpa using p2) (by simpa using q2)
          have hm1 : Mem W0 w ([(A.b, .row xs 173 A.k)] :: [(B.b, .row vs 173 B.k)] :: [others W0 w [A.b, B.b]]) := hm0.of_flat (by simp)
          have key2 := insert_spec W0 [others W0 w [A.b, B.b]] A.b A.k n ca i B.b B.k cb xs vs (by omega) (by omega) k1 k2 a1 hck hkv (fun e => hap e.symm) p4 q4 w hm1
          refine key2.mono ?_
          rintro e w' ⟨L', hm', b', c', hc', rfl, rfl⟩
          have g1 := hm'.get (b := b') .here
          have g2 := hm'.get (b := B.b) (.next .here)
          obtain ⟨hs1, st1⟩ := hs.recast (w' := w') hm'.below (PT.set a none h.mem) (fun y0 hy0 => by rw [PT.get_set, if_neg (fun e => by rw [e, ha] at hy0; cases hy0)]) fun a' o' B' ha' hg => by
            rw [PT.get_set] at hg
            split at hg
            · cases hg
            · rename_i e1
              refine ⟨⟨_, hg⟩, ?_⟩
              by_cases e2 : a' = b
              · subst e2
                rw [hb] at ha'; cases ha'
                rw [hgb] at hg; cases hg
                exact ⟨⟨q6, .inr hfb⟩, [], _, hfb.symm, g2.2, q3, q4⟩
              · have n1 := hs.apart a' a o' _ B' A hg hga ha' ha e1
                have n2 := hs.apart a' b o' _ B' B hg hgb ha' hb e2
                obtain ⟨_, n3⟩ := hs.own a' o' B' hg ha'
                exact n3.mono (Ext.refl φ) (same_of hs.below hm' (S := [A.b, B.b]) (fun p hp => by simp [hp]) n3.lt (by simp [n1, n2]))
          have hnodup := hm'.nodup
          simp only [List.flatten_cons, List.flatten_nil, List.append_nil, List.cons_append, List.nil_append, List.map_cons, List.nodup_cons] at hnodup
          have hnew : ∀ a' o' B', PT.get a' (PT.set a none h.mem) = some o' → φ a' = some B' → B'.b ≠ b' ∧ w'.heap[B'.b]? = w'.heap[B'.b]? := fun a' o' B' hg ha' => by
            rw [PT.get_set] at hg
            split at hg
            · cases hg
            · rename_i e1
              refine ⟨fun e => hnodup.1 ?_, rfl⟩
              rw [← e]
              obtain ⟨z1, z2⟩ := hs.own a' o' B' hg ha'
              have hlt := z2.lt
              have n1 := hs.apart a' a o' _ B' A hg hga ha' ha e1
              simp only [List.mem_cons]
              by_cases e2 : B'.b = B.b
              · exact .inl e2
              · exact .inr (List.mem_map.2 ⟨(B'.b, .obj w.heap[B'.b]), mem_others.2 ⟨_, by simp [hlt], z1, by simp [n1, e2], rfl⟩, rfl⟩)
          have hxs : xs.length = n * 8 := by omega
          have hrel : TR φ (T.cat (T.cat (T.sub c 0 (i * 8)) c2) (T.sub c (i * 8) ((n - i) * 8))) (insC i xs vs) := by
            have s1 := TR.sub p3 (lo := 0) (k := i * 8) (by omega)
            have s2 := TR.sub p3 (lo := i * 8) (k := (n - i) * 8) (by omega)
            rw [List.drop_zero] at s1
            rw [List.take_of_length_le (by rw [List.length_drop]; omega)] at s2
            exact TR.cat (TR.cat s1 q3) s2
          have hnx := hs1.fresh h.next (Nat.le_refl _)
          obtain ⟨hs2, st2⟩ := hs1.name1 (b := b') (k := c' * 8) (s := 8) (o := .row 173 8 (T.cat (T.cat (T.sub c 0 (i * 8)) c2) (T.sub c (i * 8) ((n - i) * 8)))) (so := .row (insC i xs vs) 173 (c' * 8)) hm' (by simp) hnew
            ⟨⟨rfl, .inr rfl⟩, [], _, rfl, g1.2, hrel.mono (named_ext hnx.1), fun x hx => by
              replace hx : x ∈ xs.take (i * 8) ++ vs ++ xs.drop (i * 8) := hx
              rcases List.mem_append.1 hx with hx | hx
              · rcases List.mem_append.1 hx with hx | hx
                · exact p4 x (List.mem_of_mem_take hx)
                · exact q4 x hx
              · exact p4 x (List.mem_of_mem_drop hx)⟩
          refine ⟨_, _, rfl, st1.trans st2, hs2, ?_⟩
          unfold VR
          exact ⟨_, named_same _ _ _, _, c', rfl, hc', .inl rfl, by simp⟩
      · trivial
    · trivial
  · exact key hd hhd _ h φ w argsR hs hl
end
end
end Go.Proofs.YtokggoikffcijaaGreatDoor
