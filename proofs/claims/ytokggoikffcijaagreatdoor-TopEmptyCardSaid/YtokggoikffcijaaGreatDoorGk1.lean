/-
  The library's slices.Sorted(maps.Keys(m)) as a native of the evaluator.
-/
import Derived.Test.YtokggoikffcijaaGreatDoorKs0
import Derived.Test.YtokggoikffcijaaGreatDoorGw1
namespace Go.Proofs.YtokggoikffcijaaGreatDoor
namespace Sht
open Go Go.SL Go.RowKit Go.Maps Go.Sort Go.Shelf
theorem sorted_exact (W0 : World) (L : List Seg) (bm bp ck kb : Nat) (es : Ent) (u v : Nat → SObj → List Seg) (ha : At L bm (mapO .i64 es ck) u) (hp : At L bp (.row [.map (some bm)] 269 kb) v)
    (hk : (es.map (·.1)).Nodup) (hbn : (es.map (·.2.2)).Nodup) (hold : ∀ e ∈ es, e.2.2 < ck) (hval : ∀ e ∈ es, (Lit.int .i64 e.1).wf = true ∧ ∃ s, e.2.1 = .string s ∧ s.size ≤ maxLen) (hn : es.length ≤ 1000000) (hpos : 0 < es.length) :
    FnS Tryz.prog W0 187 #[.func (.func 276) #[] #[.pointer (some ⟨bp, 0, none⟩)]] L (fun e L' => ∃ g cap, es.length ≤ cap ∧ L' = [(g, .row ((sortZ (es.map (·.1))).map (Value.int .i64)) 3 cap)] :: L ∧ e = .returned (.slice (some ⟨g, 0, none⟩) es.length cap)) := by
  intro w hm
  have hb : w.heap[bm]? = some (.map (entE es) ck) := (hm.get ha).2
  have hc : w.cell? ⟨bp, 0, none⟩ = some (.map (some bm)) := (hm.get hp).2.cell rfl
  have hown := owns_entE hb hk hbn hold hval (by unfold maxLen; omega)
  have hseq : SeqGives Fence.wide 2 Tryz.prog 276 #[.pointer (some ⟨bp, 0, none⟩)] encZ (fun ss => ss.Perm (intKeys (datP Tryz.prog es))) (Maps.size (datP Tryz.prog es)) w :=
    AnyZI.keys_gives (ρ := Tryz.keysA_ren) { Tryz.keysA with } Fence.wide _ trivial rfl (by omega) bp bm es.length (datP Tryz.prog es) w (hm.get hp).2.lt hc hown
  have cS := AnyZI.sorted_in Tryz.sortedA Fence.wide 5 trivial trivial trivial trivial rfl (by omega) (sortsA _) E64 276 #[.pointer (some ⟨bp, 0, none⟩)] trivial E276 _ _ (by rw [size_entE]; unfold maxLen; omega) (by rw [size_entE]; omega) w hseq
  change CallsIn _ _ Tryz.prog 187 _ _ _ at cS
  refine (callsIn_wide.1 cS).mono ?_
  rintro e w' ⟨v, ss, rfl, hS, hrow, _, hbel⟩
  have hsort : ss.mergeSort (fun x y => decide (x ≤ y)) = sortZ (es.map (·.1)) := mergeSort_of_perm_i (hS.trans (keys_entE hval))
  rw [hsort] at hrow
  have hlen : (sortZ (es.map (·.1))).length = ss.length := by rw [← hsort]; exact List.length_mergeSort _
  have hlen2 : ss.length = es.length := by rw [← hlen]; unfold sortZ; rw [List.length_mergeSort, List.length_map]
  have hbl : Below W0.heap.size W0 w' := hm.below.trans (hbel.mono hm.below.size)
  have hold' : ∀ p ∈ L.flatten, W0.heap.size ≤ p.1 ∧ SL.Holds w' p.1 p.2 := fun p hpm => ⟨(hm.holds p hpm).1, (hm.holds p hpm).2.block (hbel.block _ (hm.holds p hpm).2.lt)⟩
  obtain ⟨hl, ⟨rfl, h0⟩ | ⟨g, cap, cur, rfl, hg, hcur, hc1, hc2, hsz, htk⟩⟩ := hrow
  · omega
  · refine ⟨[(g, .row ((sortZ (es.map (·.1))).map (Value.int .i64)) 3 cap)] :: L, ⟨hbl, ?_, ?_⟩, g, cap, by omega, rfl, by rw [hlen2]⟩
    · simp only [List.flatten_cons, List.singleton_append, List.map_cons, List.nodup_cons]
      refine ⟨fun hm2 => ?_, hm.nodup⟩
      obtain ⟨p, hp2, e⟩ := List.mem_map.1 hm2
      have := (hm.holds p hp2).2.lt
      omega
    · intro p hp2
      simp only [List.flatten_cons, List.singleton_append, List.mem_cons] at hp2
      rcases hp2 with rfl | hp2
      · have hcat : (sortZ (es.map (·.1))).map (Value.int .i64) ++ cur.toList.drop ss.length = cur.toList := by
          rw [← List.take_append_drop ss.length cur.toList]
          congr 1
          · rw [← htk, Nat.mul_one]
          · simp
        refine ⟨Nat.le_trans hm.below.size hg, cur.toList.drop ss.length, (0, 0), ?_, ?_, .inl rfl⟩
        · rw [hcur, hcat, Array.toArray_toList]
          rfl
        · rw [hcat]
          simp [hsz]
      · exact hold' p hp2
theorem sorted_nil (W0 : World) (L : List Seg) (bm bp ck kb : Nat) (u v : Nat → SObj → List Seg) (ha : At L bm (mapO .i64 [] ck) u) (hp : At L bp (.row [.map (some bm)] 269 kb) v) :
    FnS Tryz.prog W0 187 #[.func (.func 276) #[] #[.pointer (some ⟨bp, 0, none⟩)]] L (fun e L' => L' = L ∧ e = .returned (.slice none 0 0)) := by
  intro w hm
  have hb : w.heap[bm]? = some (.map (entE []) ck) := (hm.get ha).2
  have hc : w.cell? ⟨bp, 0, none⟩ = some (.map (some bm)) := (hm.get hp).2.cell rfl
  have hval : ∀ e ∈ ([] : Ent), (Lit.int .i64 e.1).wf = true ∧ ∃ s, e.2.1 = .string s ∧ s.size ≤ maxLen := fun e he => by cases he
  have hown := owns_entE (es := []) hb (by simp) (by simp) (fun e he => by cases he) hval (by simp [maxLen])
  have hseq : SeqGives Fence.wide 2 Tryz.prog 276 #[.pointer (some ⟨bp, 0, none⟩)] encZ (fun ss => ss.Perm (intKeys (datP Tryz.prog []))) (Maps.size (datP Tryz.prog [])) w :=
    AnyZI.keys_gives (ρ := Tryz.keysA_ren) { Tryz.keysA with } Fence.wide _ trivial rfl (by omega) bp bm 0 (datP Tryz.prog []) w (hm.get hp).2.lt hc hown
  have cS := AnyZI.sorted_in Tryz.sortedA Fence.wide 5 trivial trivial trivial trivial rfl (by omega) (sortsA _) E64 276 #[.pointer (some ⟨bp, 0, none⟩)] trivial E276 _ _ (by rw [size_entE]; simp [maxLen]) (by rw [size_entE]; simp) w hseq
  change CallsIn _ _ Tryz.prog 187 _ _ _ at cS
  refine (callsIn_wide.1 cS).mono ?_
  rintro e w' ⟨v, ss, rfl, hS, _, hiff, hbel⟩
  have hss : ss = [] := (hS.trans (keys_entE hval)).eq_nil
  refine ⟨L, ⟨hm.below.trans (hbel.mono hm.below.size), hm.nodup, fun p hpm => ⟨(hm.holds p hpm).1, (hm.holds p hpm).2.block (hbel.block _ (hm.holds p hpm).2.lt)⟩⟩, rfl, ?_⟩
  rw [hiff.2 hss]
end Sht
open Go Go.SL Go.RowKit Go.Ev
noncomputable section
section
variable {W0 w w' : World} {φ : Phi} {h : Hp}
def ltB (a b : Int) : Bool := Int.rec (motive := fun _ => Bool) (fun m => Int.rec (motive := fun _ => Bool) (fun n => Nat.blt m n) (fun _ => false) b) (fun _ => false) a
theorem ltB_ok {a b : Int} (h : ltB a b = true) : a < b := by
  cases a with
  | negSucc m => exact (Bool.false_ne_true h).elim
  | ofNat m =>
    cases b with
    | negSucc n => exact (Bool.false_ne_true h).elim
    | ofNat n =>
      have : m < n := Nat.le_of_ble_eq_true h
      show (m : Int) < (n : Int)
      omega
def insK (k : Int) (l : List Int) : List Int := List.rec (motive := fun _ => List Int) [k] (fun x xs ih => ite' (ltB k x) (k :: x :: xs) (x :: ih)) l
theorem insK_perm (k : Int) : ∀ l, (insK k l).Perm (k :: l)
  | [] => .refl _
  | x :: xs => by
    show (ite' (ltB k x) (k :: x :: xs) (x :: insK k xs)).Perm _
    cases ltB k x with
    | true => exact .refl _
    | false => exact ((insK_perm k xs).cons x).trans (.swap k x xs)
def srtK (es : List (Int × V × Nat)) : List Int := List.rec (motive := fun _ => List Int) [] (fun e _ ih => insK e.1 ih) es
theorem srtK_perm : ∀ es : List (Int × V × Nat), (srtK es).Perm (es.map (·.1))
  | [] => .refl _
  | e :: es => (insK_perm e.1 (srtK es)).trans ((srtK_perm es).cons e.1)
def allB {α : Type} (f : α → Bool) (l : List α) : Bool := List.rec (motive := fun _ => Bool) true (fun x _ ih => Bool.and (f x) ih) l
theorem allB_ok {α : Type} {f : α → Bool} : ∀ {l : List α}, allB f l = true → ∀ x ∈ l, f x = true
  | [], _, x, hx => by cases hx
  | y :: l, h, x, hx => by
    change Bool.and (f y) (allB f l) = true at h
    simp only [Bool.and_eq_true] at h
    rcases List.mem_cons.1 hx with rfl | hx
    · exact h.1
    · exact allB_ok h.2 x hx
/-- each to the ones behind it -/
def pairB {α : Type} (f : α → α → Bool) (l : List α) : Bool := List.rec (motive := fun _ => Bool) true (fun x xs ih => Bool.and (allB (f x) xs) ih) l
theorem pairB_ok {α : Type} {f : α → α → Bool} : ∀ {l : List α}, pairB f l = true → l.Pairwise (fun a b => f a b = true)
  | [], _ => .nil
  | y :: l, h => by
    change Bool.and (allB (f y) l) (pairB f l) = true at h
    simp only [Bool.and_eq_true] at h
    exact .cons (allB_ok h.1) (pairB_ok h.2)
def keyB (z : Int) : Bool := Int.rec (motive := fun _ => Bool) (fun n => Nat.ble n 9223372036854775807) (fun _ => false) z
def entB (ck : Nat) (e : Int × V × Nat) : Bool := Bool.and (Bool.and (keyB e.1) (Nat.blt e.2.2 ck)) (elS e.2.1 false fun n _ => Nat.ble n 1000000)
def rowK (l : List Int) : T V := List.rec (motive := fun _ => T V) (.bs 0 0) (fun x _ ih => T.cat (.z 1 (.i .i64 x)) ih) l
theorem rowK_ok : ∀ l : List Int, TR φ (rowK l) (l.map (Value.int .i64))
  | [] => by show TR φ (.bs 0 0) []; unfold TR; exact ⟨rfl, by decide⟩
  | x :: l => by
    have h1 : TR φ (.z 1 (.i .i64 x)) [Value.int .i64 x] := by
      unfold TR; exact ⟨rfl, fun y hy => by rw [List.mem_singleton] at hy; exact hy ▸ VR.i' _ _ _⟩
    exact TR.cat h1 (rowK_ok l)
theorem entR_keys : ∀ {es : List (Int × V × Nat)} {l : Ent}, entR φ es l → l.map (·.1) = es.map (·.1) ∧ l.map (·.2.2) = es.map (·.2.2) ∧ l.length = es.length
  | [], _, h => by cases h; exact ⟨rfl, rfl, rfl⟩
  | (k, v, n) :: es, _, ⟨y, ys, h1, h2, h3⟩ => by
    subst h1
    obtain ⟨e1, e2, e3⟩ := entR_keys h3
    exact ⟨by simp [e1], by simp [e2], by simp [e3]⟩
theorem entR_ok {ck : Nat} : ∀ {es : List (Int × V × Nat)} {l : Ent}, entR φ es l → allB (entB ck) es = true → ∀ e ∈ l, (e.2.2 < ck) ∧ (Lit.int .i64 e.1).wf = true ∧ ∃ s, e.2.1 = .string s ∧ s.size ≤ maxLen
  | [], _, h, _, e, he => by cases h; cases he
  | (k, v, n) :: es, _, ⟨y, ys, h1, h2, h3⟩, hb, e, he => by
    subst h1
    change Bool.and (entB ck (k, v, n)) (allB (entB ck) es) = true at hb
    simp only [Bool.and_eq_true] at hb
    rcases List.mem_cons.1 he with rfl | he
    · have h4 := hb.1
      unfold entB at h4
      simp only [Bool.and_eq_true] at h4
      obtain ⟨⟨k1, k2⟩, k3⟩ := h4
      refine ⟨Nat.le_of_ble_eq_true k2, ?_, ?_⟩
      · cases k with
        | negSucc m => exact (Bool.false_ne_true k1).elim
        | ofNat m =>
          have : m ≤ 9223372036854775807 := Nat.le_of_ble_eq_true k1
          show decide _ = true
          simp [IntKind.min, IntKind.max, IntKind.bits, IntKind.signed]
          omega
      · cases v <;> try exact (Bool.false_ne_true k3).elim
        rename_i m x
        have : m ≤ 1000000 := Nat.le_of_ble_eq_true k3
        exact ⟨_, h2.s.1, by rw [strOf_size]; unfold maxLen; omega⟩
    · exact entR_ok h3 hb.2 e he
def bornNe (a b : Int × V × Nat) : Bool := Bool.not (Nat.beq a.2.2 b.2.2)
def sortedN (_hd : Hd) (args : List V) (h : Hp) : Ox := match args with
  | [.fn f [] [.p b 0]] => ite' (Nat.beq f 276) (match PT.get b h.mem with
    | some (.row t _ c) => ite' (Bool.and (Nat.beq t 269) (Nat.beq (T.size c) 1)) (elM (T.get c 0) (.no 800) fun a => ite' (Id.beq b a) (.no 801) (match PT.get a h.mem with
      | some (.mp .i64 [] _) => .val .ns h
      | some (.mp .i64 es ck) => ite' (Bool.and (Bool.and (Nat.ble 1 es.length) (Nat.ble es.length 1000000)) (Bool.and (Bool.and (allB (entB ck) es) (pairB bornNe es)) (pairB ltB (srtK es))))
          (.val (.sl h.next 0 es.length none) ⟨h.next.succ, PT.set h.next (some (.row 3 1 (rowK (srtK es)))) h.mem⟩) (.no 802)
      | _ => .no 803)) (.no 804)
    | _ => .no 805) (.no 806)
  | _ => .no 807
theorem sortedN_ok (hd : Hd) (args : List V) (h : Hp) (φ : Phi) (w : World) (argsR : List Value) (hs : Sm W0 φ h w) (hl : LR φ args argsR) : CallOK Tryz.prog W0 φ h w 187 argsR.toArray (sortedN hd args h) := by
  unfold sortedN
  split
  · rename_i f b
    obtain ⟨x, rfl, hx⟩ := hl.one
    unfold VR at hx
    obtain ⟨ys, zs, rfl, h1, h2⟩ := hx
    unfold LR at h1
    obtain ⟨p, h3, hp⟩ := h2.one
    have hys : ys = #[] := by apply Array.ext'; simpa using h1
    have hzs : zs = #[p] := by apply Array.ext'; simpa using h3
    subst hys hzs
    obtain ⟨B, hb, hp⟩ := hp.p
    generalize hfe : Nat.beq f 276 = fb
    cases fb with
    | false => trivial
    | true =>
      have hfe := Nat.eq_of_beq_eq_true hfe
      subst hfe
      show CallOK Tryz.prog W0 φ h w _ _ (match PT.get b h.mem with | some (.row t _ c) => _ | _ => _)
      split
      · rename_i t s c hgb
        cases k1 : Bool.and (Nat.beq t 269) (Nat.beq (T.size c) 1) with
        | false => trivial
        | true =>
          simp only [Bool.and_eq_true] at k1
          have ht := Nat.eq_of_beq_eq_true k1.1
          have hsz := Nat.eq_of_beq_eq_true k1.2
          subst ht
          have hf := hs.flat hgb hb (by decide)
          rw [hf] at hp
          subst hp
          obtain ⟨pre, xs, p1, p2, p3, p4, p5, p6⟩ := hs.row hgb hb
          obtain rfl : pre = [] := List.eq_nil_of_length_eq_zero (by rw [p1]; exact hf)
          rw [hsz] at p5
          match xs, p5 with
          | [v0], _ =>
            obtain ⟨y0, e0, r0⟩ := TR.get p3 (i := 0) (by simp)
            simp at e0
            subst e0
            show CallOK Tryz.prog W0 φ h w _ _ (elM (T.get c 0) _ _)
            cases hv0 : T.get c 0 <;> try trivial
            rename_i a
            rw [hv0] at r0
            unfold VR at r0
            obtain ⟨A, ha, rfl⟩ := r0
            show CallOK Tryz.prog W0 φ h w _ _ (ite' (Id.beq b a) _ _)
            cases k2 : Id.beq b a with
            | true => trivial
            | false =>
              have hne : b ≠ a := fun e => by rw [Id.beq_iff.2 e] at k2; cases k2
              show CallOK Tryz.prog W0 φ h w _ _ (match PT.get a h.mem with | some (.mp .i64 [] _) => _ | some (.mp .i64 es ck) => _ | _ => _)
              split
              · rename_i ck hga
                obtain ⟨_, es', r1, r2⟩ := hs.own _ _ _ hga ha
                have r1 : es' = [] := r1
                subst r1
                have hm0 := hs.mem2 hne hgb hga hb ha (s1 := .row [.map (some A.b)] 269 B.k) (s2 := mapO .i64 [] ck) (by simpa using p2) r2
                have hm1 : Mem W0 w ([(B.b, .row [.map (some A.b)] 269 B.k)] :: [(A.b, mapO .i64 [] ck)] :: [others W0 w [B.b, A.b]]) := hm0.of_flat (by simp)
                have key := Sht.sorted_nil W0 _ A.b B.b ck B.k _ _ (.next .here) .here w hm1
                refine key.mono ?_
                rintro e w' ⟨L', hm', rfl, rfl⟩
                have g2 := hm'.get (b := B.b) .here
                have g3 := hm'.get (b := A.b) (.next .here)
                have hs' := again2 hs hgb hga hb ha hm' (fun p hp => by simp [hp]) ⟨⟨p6, .inr hf⟩, [], _, hf.symm, g2.2, p3, p4⟩ ⟨[], rfl, g3.2⟩
                exact ⟨φ, _, rfl, St.refl _ _, hs', by unfold VR; rfl⟩
              · rename_i es ck _ hga
                cases k3 : Bool.and (Bool.and (Nat.ble 1 es.length) (Nat.ble es.length 1000000)) (Bool.and (Bool.and (allB (entB ck) es) (pairB bornNe es)) (pairB ltB (srtK es))) with
                | false => trivial
                | true =>
                  simp only [Bool.and_eq_true] at k3
                  obtain ⟨⟨q1, q2⟩, ⟨q3, q4⟩, q5⟩ := k3
                  have q1 := Nat.le_of_ble_eq_true q1
                  have q2 := Nat.le_of_ble_eq_true q2
                  have q4 := pairB_ok q4
                  have q5 := pairB_ok q5
                  obtain ⟨_, es', r1, r2⟩ := hs.own _ _ _ hga ha
                  obtain ⟨d1, d2, d3⟩ := entR_keys r1
                  have hent := entR_ok r1 q3
                  have hperm := srtK_perm es
                  have hnd : (es'.map (·.1)).Nodup := by
                    rw [d1]
                    refine hperm.nodup_iff.1 (q5.imp fun h e => ?_)
                    have := ltB_ok h
                    omega
                  have hbn : (es'.map (·.2.2)).Nodup := by
                    rw [d2, List.Nodup, List.pairwise_map]
                    refine q4.imp fun h e => ?_
                    unfold bornNe at h
                    rw [e, Nat.beq_refl] at h
                    cases h
                  have hsz2 : Sht.sortZ (es'.map (·.1)) = srtK es := by
                    rw [d1]
                    unfold Sht.sortZ
                    have e1 : (es.map (·.1)).mergeSort (fun x y => decide (x ≤ y)) = (srtK es).mergeSort (fun x y => decide (x ≤ y)) := mergeSort_of_perm_i hperm.symm
                    rw [e1]
                    exact List.mergeSort_of_pairwise (q5.imp fun h => by simpa using Int.le_of_lt (ltB_ok h))
                  have hm0 := hs.mem2 hne hgb hga hb ha (s1 := .row [.map (some A.b)] 269 B.k) (s2 := mapO .i64 es' ck) (by simpa using p2) r2
                  have hm1 : Mem W0 w ([(B.b, .row [.map (some A.b)] 269 B.k)] :: [(A.b, mapO .i64 es' ck)] :: [others W0 w [B.b, A.b]]) := hm0.of_flat (by simp)
                  have key := Sht.sorted_exact W0 _ A.b B.b ck B.k es' _ _ (.next .here) .here hnd hbn (fun e he => (hent e he).1) (fun e he => (hent e he).2) (by omega) (by omega) w hm1
                  rw [hsz2, d3] at key
                  refine key.mono ?_
                  rintro e w' ⟨L', hm', g, cap, hcap, rfl, rfl⟩
                  have g1 := hm'.get (b := g) .here
                  have g2 := hm'.get (b := B.b) (.next .here)
                  have g3 := hm'.get (b := A.b) (.next (.next .here))
                  have hs' := again2 hs hgb hga hb ha hm' (fun p hp => by simp [hp]) ⟨⟨p6, .inr hf⟩, [], _, hf.symm, g2.2, p3, p4⟩ ⟨es', r1, g3.2⟩
                  have hnodup := hm'.nodup
                  simp only [List.flatten_cons, List.flatten_nil, List.append_nil, List.cons_append, List.nil_append, List.map_cons, List.nodup_cons] at hnodup
                  have hap : ∀ a' o' B', PT.get a' h.mem = some o' → φ a' = some B' → B'.b ≠ g ∧ w'.heap[B'.b]? = w'.heap[B'.b]? := fun a' o' B' hg' ha' => by
                    refine ⟨fun e => hnodup.1 ?_, rfl⟩
                    rw [← e]
                    obtain ⟨z1, z2⟩ := hs.own a' o' B' hg' ha'
                    have hlt := z2.lt
                    simp only [List.mem_cons]
                    by_cases e1 : B'.b = B.b
                    · exact .inl e1
                    · by_cases e2 : B'.b = A.b
                      · exact .inr (.inl e2)
                      · exact .inr (.inr (List.mem_map.2 ⟨(B'.b, .obj w.heap[B'.b]), mem_others.2 ⟨_, by simp [hlt], z1, by simp [e1, e2], rfl⟩, rfl⟩))
                  obtain ⟨hs2, st2⟩ := hs'.name1 (b := g) (k := cap) (s := 1) (o := .row 3 1 (rowK (srtK es))) (so := .row ((srtK es).map (Value.int .i64)) 3 cap) hm' (by simp) hap
                    ⟨⟨rfl, .inr rfl⟩, [], _, rfl, g1.2, rowK_ok _, fun x hx => by obtain ⟨z, _, rfl⟩ := List.mem_map.1 hx; rfl⟩
                  refine ⟨_, _, rfl, st2, hs2, ?_⟩
                  unfold VR
                  exact ⟨_, named_same _ _ _, _, cap, rfl, hcap, .inl rfl, by simp⟩
              · trivial
      · trivial
  · trivial
end
end
end Go.Proofs.YtokggoikffcijaaGreatDoor
