/-
  guard.Try as a native of the evaluator.
-/
import Derived.Test.YtokggoikffcijaaGreatDoorGt0
import Derived.Test.YtokggoikffcijaaGreatDoorK4
namespace Go.Proofs.YtokggoikffcijaaGreatDoor
open Go Go.SL Go.RowKit Go.Ev
noncomputable section
/-- the cell still holds nought -/
def still (i : Ev.Id) (h : Hp) : Bool := match PT.get i h.mem with
  | some (.row t s c) => Bool.and (Bool.and (Nat.beq t 69) (Nat.beq s 1)) (Bool.and (Nat.beq (T.size c) 1) (elI (T.get c 0) false fun k z => Bool.and (Nat.beq (kn k) 3) (keyEq z 0)))
  | _ => false
def backT (i : Ev.Id) (x : Ox) : Ox := match x with
  | .val _ h => ite' (still i h) (.val (.i .i64 (.ofNat 0)) ⟨h.next, PT.set i none h.mem⟩) (.no 702)
  | .pan v h => elIc v (.no 703) fun t y => ite' (Nat.beq t 343) (elAg y (.no 704) fun c => ite' (Nat.beq (T.size c) 1) (elI (T.get c 0) (.no 705) fun k z => ite' (Nat.beq (kn k) 3) (ite' (still i h) (.val (.i .i64 z) ⟨h.next, PT.set i none h.mem⟩) (.no 706)) (.no 707)) (.no 708)) (.no 709)
  | _ => .no 710
def cell0 (h : Hp) : Hp := ⟨h.next.succ, PT.set h.next (some (.row 69 1 (.z 1 (.i .i64 (.ofNat 0))))) h.mem⟩
def tryN (hd : Hd) (args : List V) (h : Hp) : Ox := match args with
  | [.fn f fs cs] => ite' (entersB Tryz.prog f) (backT h.next (hd f (fs ++ cs) (cell0 h))) (.no 701)
  | _ => .no 700
section
variable {W0 w w1 w2 w3 : World} {φ φ2 : Phi} {h h2 : Hp} {b : Nat}
theorem still_ok (hs : Sm W0 φ h w) {i : Ev.Id} (hi : φ i = some ⟨b, 0, 1, 1⟩) (hst : still i h = true) : (∃ o, PT.get i h.mem = some o) ∧ Holds w b (.row [.int .i64 0] 69 1) := by
  unfold still at hst
  split at hst
  · rename_i t s c hg
    simp only [Bool.and_eq_true] at hst
    obtain ⟨⟨h1, h2⟩, h3, h4⟩ := hst
    have h1 := Nat.eq_of_beq_eq_true h1
    have h3 := Nat.eq_of_beq_eq_true h3
    subst h1
    obtain ⟨pre, xs, p1, p2, p3, p4, p5, p6⟩ := hs.row hg hi
    obtain rfl : pre = [] := List.eq_nil_of_length_eq_zero p1
    rw [h3] at p5
    match xs, p5 with
    | [x], _ =>
      obtain ⟨y, q1, q2⟩ := TR.get p3 (i := 0) (by simp)
      simp at q1
      subst q1
      cases hv : T.get c 0 <;> rw [hv] at h4 q2 <;> try exact (Bool.false_ne_true h4).elim
      rename_i k z
      change Bool.and (Nat.beq (kn k) 3) (keyEq z 0) = true at h4
      simp only [Bool.and_eq_true] at h4
      have hk : k = .i64 := kn_inj h4.1
      have hz := (keyEq_iff _ _).1 h4.2
      subst hk hz
      rw [q2.i] at p2
      exact ⟨⟨_, hg⟩, by simpa using p2⟩
  · cases hst
/-- a new cell, named, beside all blocks -/
theorem cell_in (hs : Sm W0 φ h w) (hm : Mem W0 w1 ([(b, .row [.int .i64 0] 69 1)] :: [others W0 w []])) :
    Sm W0 (named φ h.next ⟨b, 0, 1, 1⟩) (cell0 h) w1 ∧ St φ (named φ h.next ⟨b, 0, 1, 1⟩) h (cell0 h) := by
  have hb := hm.get .here
  refine hs.name (B := ⟨b, 0, 1, 1⟩) (w' := w1) (o := .row 69 1 (.z 1 (.i .i64 (.ofNat 0)))) hm.below hb.1 (fun _ => False) (fun _ hf => hf.elim) h.mem (fun _ => ⟨fun hf => hf.elim, fun _ => rfl⟩) (fun a o1 B1 _ g1 g2 => ?_) ?_
  · obtain ⟨g3, g4⟩ := hs.own a o1 B1 g1 g2
    have hlt := g4.lt
    have hin : (B1.b, SObj.obj (w.heap[B1.b])) ∈ others W0 w [] := mem_others.2 ⟨w.heap[B1.b], by simp [hlt], g3, by simp, rfl⟩
    refine ⟨?_, same_listed hs.below hm (fun p hp => by simp [hp]) hlt⟩
    intro e
    have hn := hm.nodup
    simp only [List.flatten_cons, List.flatten_nil, List.append_nil, List.singleton_append, List.map_cons, List.nodup_cons] at hn
    exact hn.1 (List.mem_map.2 ⟨_, hin, e⟩)
  · refine ⟨⟨rfl, .inr rfl⟩, [], [.int .i64 0], rfl, hb.2, ?_, by simp [cellsOk]⟩
    unfold TR
    exact ⟨rfl, fun y hy => by rw [List.mem_singleton] at hy; subst hy; exact VR.i' _ _ _⟩
/-- the cell's name given up, the world's other blocks as they were -/
theorem cell_out (hst : St (named φ h.next ⟨b, 0, 1, 1⟩) φ2 (cell0 h) h2) (hs : Sm W0 φ h w) (hs2 : Sm W0 φ2 h2 w2) (hg : ∃ o, PT.get h.next h2.mem = some o) (hm : Mem W0 w3 [others W0 w2 [b]]) :
    St φ φ2 h ⟨h2.next, PT.set h.next none h2.mem⟩ ∧ Sm W0 φ2 ⟨h2.next, PT.set h.next none h2.mem⟩ w3 := by
  obtain ⟨og, hg⟩ := hg
  have hnx := hs.fresh h.next (Nat.le_refl _)
  have hi : φ2 h.next = some ⟨b, 0, 1, 1⟩ := hst.ext _ _ (named_same _ _ _)
  refine ⟨⟨(named_ext hnx.1).trans hst.ext, ?_, fun a ha hlt => ?_⟩, (hs2.drop h.next).moved hm.below fun a o B g1 g2 => ?_⟩
  · have := hst.le
    have e : (cell0 h).next = h.next.succ := rfl
    rw [e, Id.num_succ] at this
    show h.next.num ≤ h2.next.num
    omega
  · have hne : a ≠ h.next := by rintro rfl; omega
    have e : (cell0 h).next = h.next.succ := rfl
    obtain ⟨g1, g2⟩ := hst.ub a (by rw [named_ne hne]; exact ha) (by rw [e, Id.num_succ]; omega)
    refine ⟨g1, ?_⟩
    show PT.get a (PT.set h.next none h2.mem) = _
    rw [drop_get hne, g2]
    show PT.get a (PT.set h.next _ h.mem) = _
    rw [PT.get_set, if_neg hne]
  · have hne : a ≠ h.next := by
      rintro rfl
      change PT.get h.next (PT.set h.next none h2.mem) = some o at g1
      rw [PT.get_set, if_pos rfl] at g1
      cases g1
    change PT.get a (PT.set h.next none h2.mem) = some o at g1
    rw [drop_get hne] at g1
    have hap := hs2.apart a h.next o og B _ g1 hg g2 hi hne
    exact same_of hs2.below hm (S := [b]) (fun p hp => by simp [hp]) (hs2.own a o B g1 g2).2.lt (by simpa using hap)
theorem tryN_ok (hd : Hd) (hhd : HdOK Tryz.prog W0 hd) (args : List V) (h : Hp) (φ : Phi) (w : World) (argsR : List Value) (hs : Sm W0 φ h w) (hl : LR φ args argsR) : CallOK Tryz.prog W0 φ h w 191 argsR.toArray (tryN hd args h) := by
  unfold tryN
  split
  · rename_i f fs cs
    generalize hb : entersB Tryz.prog f = b
    cases b with
    | false => exact trivial
    | true =>
    have he := entersB_ok hb
    clear hb
    generalize hx : hd f (fs ++ cs) (cell0 h) = x
    obtain ⟨xv, rfl, hv⟩ := hl.one
    unfold VR at hv
    obtain ⟨ys, zs, rfl, h1, h2⟩ := hv
    show CallOK Tryz.prog W0 φ h w _ _ (backT h.next x)
    have hrun : ∀ b w1, Mem W0 w1 ([(b, .row [.int .i64 0] 69 1)] :: [others W0 w []]) → CallOK Tryz.prog W0 (named φ h.next ⟨b, 0, 1, 1⟩) (cell0 h) w1 f (ys.toList ++ zs.toList).toArray (hd f (fs ++ cs) (cell0 h)) := fun b w1 hm => by
      obtain ⟨k1, k2⟩ := cell_in hs hm
      exact hhd f (fs ++ cs) (cell0 h) _ w1 _ k1 ((h1.mono k2.ext).append (h2.mono k2.ext))
    rw [hx] at hrun
    clear hx
    have hargs : ys.toList ++ [] ++ zs.toList = ys.toList ++ zs.toList := by simp
    cases x with
    | skip _ => trivial
    | no _ => trivial
    | val v h2 =>
      cases hst : still h.next h2 with
      | false => show CallOK Tryz.prog W0 φ h w _ _ (ite' (still h.next h2) _ _); rw [hst]; trivial
      | true =>
        have key := tryR_ok W0 [others W0 w []] f ys.toList zs.toList _ (fun _ L1 => ∃ b w2 φ2, L1 = [others W0 w2 [b]] ∧ St (named φ h.next ⟨b, 0, 1, 1⟩) φ2 (cell0 h) h2 ∧ Sm W0 φ2 h2 w2 ∧ ∃ o, PT.get h.next h2.mem = some o) he hargs fun b w1 hm => by
          refine (hrun b w1 hm).mono ?_
          rintro e w2 ⟨φ2, v', rfl, g1, g2, _⟩
          obtain ⟨hg, hh⟩ := still_ok g2 (g1.ext _ _ (named_same _ _ _)) hst
          obtain ⟨o, hg⟩ := hg
          exact ⟨_, g2.mem1 hg (g1.ext _ _ (named_same _ _ _)) hh, _, v', rfl, rfl, b, w2, φ2, rfl, g1, g2, o, hg⟩
        show CallOK Tryz.prog W0 φ h w _ _ (ite' (still h.next h2) _ _)
        rw [hst]
        have := key w hs.listed
        simp only [Array.toArray_toList] at this
        refine this.mono ?_
        rintro e w3 ⟨L', hm, rfl, _, b, w2, φ2, rfl, g1, g2, g3⟩
        obtain ⟨k1, k2⟩ := cell_out g1 hs g2 g3 hm
        exact ⟨φ2, _, rfl, k1, k2, VR.i' _ _ _⟩
    | pan v h2 =>
      show CallOK Tryz.prog W0 φ h w _ _ (elIc v _ _)
      cases v <;> try trivial
      rename_i t y0
      show CallOK Tryz.prog W0 φ h w _ _ (ite' (Nat.beq t 343) _ _)
      cases ht : Nat.beq t 343 with
      | false => trivial
      | true =>
        have ht := Nat.eq_of_beq_eq_true ht
        cases y0 <;> try trivial
        rename_i c
        show CallOK Tryz.prog W0 φ h w _ _ (ite' (Nat.beq (T.size c) 1) _ _)
        cases hc : Nat.beq (T.size c) 1 with
        | false => trivial
        | true =>
          have hc := Nat.eq_of_beq_eq_true hc
          show CallOK Tryz.prog W0 φ h w _ _ (elI (T.get c 0) _ _)
          cases hv : T.get c 0 <;> try trivial
          rename_i k z
          show CallOK Tryz.prog W0 φ h w _ _ (ite' (Nat.beq (kn k) 3) _ _)
          cases hk : Nat.beq (kn k) 3 with
          | false => trivial
          | true =>
            have hk : k = .i64 := kn_inj hk
            subst hk ht
            show CallOK Tryz.prog W0 φ h w _ _ (ite' (still h.next h2) _ _)
            cases hst : still h.next h2 with
            | false => trivial
            | true =>
              have key := tryR_fault W0 [others W0 w []] f ys.toList zs.toList _ z (fun L1 => ∃ b w2 φ2, L1 = [others W0 w2 [b]] ∧ St (named φ h.next ⟨b, 0, 1, 1⟩) φ2 (cell0 h) h2 ∧ Sm W0 φ2 h2 w2 ∧ ∃ o, PT.get h.next h2.mem = some o) he hargs fun b w1 hm => by
                refine (hrun b w1 hm).mono ?_
                rintro e w2 ⟨φ2, v', rfl, g1, g2, g4⟩
                obtain ⟨hg, hh⟩ := still_ok g2 (g1.ext _ _ (named_same _ _ _)) hst
                obtain ⟨o, hg⟩ := hg
                refine ⟨_, g2.mem1 hg (g1.ext _ _ (named_same _ _ _)) hh, _, rfl, ?_, b, w2, φ2, rfl, g1, g2, o, hg⟩
                unfold VR at g4
                obtain ⟨y, rfl, g4⟩ := g4
                unfold VR at g4
                obtain ⟨xs, rfl, g4, _⟩ := g4
                have hlen := TR.size g4
                rw [hc] at hlen
                obtain ⟨y0, q1, q2⟩ := TR.get g4 (i := 0) (by omega)
                rw [hv] at q2
                have q2 := q2.i
                subst q2
                have : xs = #[.int .i64 z] := by
                  apply Array.ext'
                  match hx : xs.toList, hlen with
                  | [y1], _ => rw [hx] at q1; simp at q1; rw [q1]
                subst this
                rfl
              have := key w hs.listed
              simp only [Array.toArray_toList] at this
              refine this.mono ?_
              rintro e w3 ⟨L', hm, rfl, b, w2, φ2, rfl, g1, g2, g3⟩
              obtain ⟨k1, k2⟩ := cell_out g1 hs g2 g3 hm
              exact ⟨φ2, _, rfl, k1, k2, VR.i' _ _ _⟩
  · trivial
end
end
end Go.Proofs.YtokggoikffcijaaGreatDoor
