/-
  Transactions: the document's answer (engrossref23), walked.
-/
import Derived.Test.YtomiidlbfcfpiaaTx1
namespace Go.Proofs.Ytomiidlbfcfpiaa
open Go Go.SL Go.RowKit Go.Sort

def RtIs (bt : Nat) (ids : List Int) (ls : List One) (es : List Edge) (s : Seg) : Prop := ∃ vi vk vw si sk sw, OwnS vi ids.length (ids.map (Value.int .i64)) 2 1 si ∧ OwnS vk ls.length (ls.flatMap oneC) 81 3 sk ∧ OwnS vw es.length (es.flatMap edC) 86 2 sw ∧
  s = sk ++ ([(bt, .row [vi, vk, vw] 35 3)] ++ (si ++ sw))
def RLockR (ids : List Int) (ls : List One) (es : List Edge) (id mo : Int) (k : ByteArray) (r : Int) (ls' : List One) (es' : List Edge) : Prop :=
  (id ∉ ids ∧ r = 6 ∧ ls' = ls ∧ es' = es) ∨ (id ∈ ids ∧ ¬ (1 ≤ mo ∧ mo ≤ 3) ∧ r = 1 ∧ ls' = ls ∧ es' = es) ∨
  (id ∈ ids ∧ (1 ≤ mo ∧ mo ≤ 3) ∧ onL (lockOf id mo k) ls = [] ∧ r = 0 ∧ ls' = locked (lockOf id mo k) ls ∧ es' = setE id [] es) ∨
  (id ∈ ids ∧ (1 ≤ mo ∧ mo ≤ 3) ∧ onL (lockOf id mo k) ls ≠ [] ∧ Rch (gE es) (insAll (onL (lockOf id mo k) ls)) id ∧ r = 11 ∧ ls' = ls ∧ es' = es) ∨
  (id ∈ ids ∧ (1 ≤ mo ∧ mo ≤ 3) ∧ onL (lockOf id mo k) ls ≠ [] ∧ ¬ Rch (gE es) (insAll (onL (lockOf id mo k) ls)) id ∧ r = 10 ∧ ls' = ls ∧ es' = setE id (insAll (onL (lockOf id mo k) ls)) es)
theorem Same.set' {g : Int → List Int} {es : List Edge} (h : Same g es) (t : Int) (xs : List Int) (hi : insAll xs = xs) : Same (setG g t xs) (setE t xs es) := by
  have h3 := h.set t xs
  rwa [hi] at h3
theorem lock_same {ids : List Int} {ls ls1 ls2 : List One} {g g' : Int → List Int} {es es' : List Edge} {id mo : Int} {k : ByteArray} {r r' : Int} (hs : Same g es) (h : LockR ids ls g id mo k r ls1 g') (h' : RLockR ids ls es id mo k r' ls2 es') :
    r = r' ∧ ls1 = ls2 ∧ Same g' es' ∧ es'.length ≤ es.length + ls.length ∧ ls1.length ≤ ls.length + 1 ∧ ((∀ y ∈ ls, Kept y) → ∀ y ∈ ls1, Kept y) := by
  have hr := hs.rch (insAll (onL (lockOf id mo k) ls)) id
  have hon : (insAll (onL (lockOf id mo k) ls)).length ≤ ls.length := Nat.le_trans (insAll_length _ _ rfl) (onL_le _ _)
  have hset : ∀ xs, xs.length ≤ ls.length → (setE id xs es).length ≤ es.length + ls.length := fun xs hx => by unfold setE; have := fromNot_le id es; simp; omega
  rcases h with ⟨a1, rfl, rfl, rfl⟩ | ⟨a1, a2, rfl, rfl, rfl⟩ | ⟨a1, a2, a3, rfl, rfl, rfl⟩ | ⟨a1, a2, a3, a4, rfl, rfl, rfl⟩ | ⟨a1, a2, a3, a4, rfl, rfl, rfl⟩ <;>
  rcases h' with ⟨b1, rfl, rfl, rfl⟩ | ⟨b1, b2, rfl, rfl, rfl⟩ | ⟨b1, b2, b3, rfl, rfl, rfl⟩ | ⟨b1, b2, b3, b4, rfl, rfl, rfl⟩ | ⟨b1, b2, b3, b4, rfl, rfl, rfl⟩ <;>
  first
  | exact absurd b1 a1 | exact absurd a1 b1 | exact absurd b2 a2 | exact absurd a2 b2 | exact absurd b3 a3 | exact absurd a3 b3 | exact absurd (hr.1 a4) b4 | exact absurd (hr.2 b4) a4
  | exact ⟨rfl, rfl, hs, by omega, by omega, fun h => h⟩
  | exact ⟨rfl, rfl, hs.set id [], hset [] (by simp), locked_le _ _, fun h => locked_all (lockOf_kept id mo k a2) h⟩
  | exact ⟨rfl, rfl, hs.set' id _ insAll_idem, hset _ hon, by omega, fun h => h⟩
theorem PR (a b c : Seg) (L : List Seg) : (a :: b :: c :: L).flatten.Perm (c :: b :: a :: L).flatten := ((P3 (a := a) (b := b) (c := c) (L := L)).trans (List.Perm.flatten ((List.Perm.swap b a L).cons c)))
theorem PT (sv s5 b si sw : Seg) (L : List Seg) : (sv :: s5 :: b :: si :: sw :: L).flatten.Perm (sw :: b :: sv :: s5 :: si :: L).flatten := (P5 (a := sv) (b := s5) (c := b) (d := si) (e := sw) (L := L)).trans (List.Perm.flatten ((List.perm_append_comm_assoc [sv, s5] [b] (si :: L)).cons sw))
theorem PU (s7 b sv s5 si : Seg) (L : List Seg) : (s7 :: b :: sv :: s5 :: si :: L).flatten.Perm (s5 :: b :: si :: s7 :: sv :: L).flatten :=
  (List.Perm.flatten ((List.perm_append_comm_assoc [s7, b, sv] [s5] (si :: L)))).trans ((List.Perm.flatten ((List.perm_append_comm_assoc [s7] [b] (sv :: si :: L)).cons s5)).trans (List.Perm.flatten (((List.perm_append_comm_assoc [s7, sv] [si] L).cons b).cons s5)))
theorem PV (s5 b so sw : Seg) (L : List Seg) : (s5 :: b :: so :: sw :: L).flatten.Perm (sw :: b :: s5 :: so :: L).flatten := (P4 (a := s5) (b := b) (c := so) (d := sw) (L := L)).trans (List.Perm.flatten ((List.perm_append_comm_assoc [s5] [b] (so :: L)).cons sw))
theorem PW (s7 b s5 so : Seg) (L : List Seg) : (s7 :: b :: s5 :: so :: L).flatten.Perm (s5 :: b :: so :: s7 :: L).flatten := (List.Perm.flatten ((List.perm_append_comm_assoc [s7, b] [s5] (so :: L)))).trans (List.Perm.flatten ((List.perm_append_comm_assoc [s7] [b, so] L).cons s5))
section ref
variable (W0 : World) (bt : Nat)
theorem rtis_spec (L : List Seg) (ids : List Int) (ls : List One) (es : List Edge) (s : Seg) (h : RtIs bt ids ls es s) (hl : ids.length ≤ 1000) (id : Int) : FnS Try.prog W0 20 #[.pointer (some ⟨bt, 0, none⟩), .int .i64 id] (s :: L) (fun e L' => L' = s :: L ∧ e = .returned (.bool (decide (id ∈ ids)))) := by
  obtain ⟨vi, vk, vw, si, sk, sw, hi, hk, hw, rfl⟩ := h
  obtain ⟨a, c, rfl, hr⟩ := hi.form
  refine FnS.read (L1 := sk :: [(bt, .row [.slice a ids.length c, vk, vw] 35 3)] :: si :: sw :: L) ?_ (by simp)
  refine FnS.of (args := [.pointer (some ⟨bt, 0, none⟩), .int .i64 id]) Try.func20 rfl rfl ?_
  refine C.seq ?_
  refine C.region ?_
  refine G.assignB rfl trivial rfl rfl rfl ?_
  refine G.nil ?_
  refine C.seq ?_
  refine C.region ?_
  refine G.moveP rfl trivial rfl rfl rfl ?_
  first | refine G.nilCheckP rfl trivial rfl rfl rfl ?_ | refine G.nilCheckF rfl trivial rfl rfl rfl ?_
  refine G.fieldAddr rfl trivial rfl rfl Try.underlying35 rfl I27 rfl rfl ?_
  refine G.loadAt (by first | exact .here | exact .next .here | exact .next (.next .here) | exact .next (.next (.next .here)) | exact .next (.next (.next (.next .here))) | exact .next (.next (.next (.next (.next .here)))) | exact .next (.next (.next (.next (.next (.next .here))))) | exact .next (.next (.next (.next (.next (.next (.next .here)))))) | exact .in1 | exact .next .in1 | exact .next (.next .in1) | exact .next (.next (.next .in1)) | exact .next (.next (.next (.next .in1))) | exact .in2 | exact .next .in2 | exact .next (.next .in2) | exact .next (.next (.next .in2)) | exact .next (.next (.next (.next .in2))) | exact .app .here | exact .app (.next .here) | exact .app (.next (.next .here)) | exact .app (.next (.next (.next .here))) | exact .app (.next (.next (.next (.next .here)))) | exact .app (.next (.next (.next (.next (.next .here))))) | exact .app (.next (.next (.next (.next (.next (.next .here)))))) | exact .app (.next (.next (.next (.next (.next (.next (.next .here))))))) | exact .app .in1 | exact .app .in2 | exact .app (.next .in1) | exact .next (.app .in1) | exact .next (.next (.app .in1)) | exact .next (.app .here) | exact .next (.next (.app .here)) | exact .next (.next (.next (.app .here))) | exact .next (.next (.next (.next (.app .here))))) rfl trivial rfl rfl Try.underlying27 rfl rfl (by rfl) ?_
  refine G.moveI rfl trivial rfl rfl rfl ?_
  refine G.call E24 rfl rfl trivial rfl rfl (in_spec W0 _ a c ids (hr W0 _).cons.cons (by omega) id) rfl ?_
  rintro e L2 ⟨rfl, rfl⟩
  refine G.assignB rfl trivial rfl rfl rfl ?_
  refine G.nil ?_
  refine C.ret ?_
  -- end 
  exact ⟨rfl, _, Res.of (rs := [.tmp 4]) rfl rfl, rfl, rfl⟩
theorem rtbegin_spec (L : List Seg) (ids : List Int) (ls : List One) (es : List Edge) (s : Seg) (h : RtIs bt ids ls es s) (hl : ids.length ≤ 1000) (id : Int) : FnS Try.prog W0 12 #[.pointer (some ⟨bt, 0, none⟩), .int .i64 id] (s :: L) (fun e L' => ∃ s', RtIs bt (if beginC ids id = 0 then insL ids id else ids) ls es s' ∧ L' = s' :: L ∧ e = .returned (.int .i64 (beginC ids id))) := by
  have hs := h
  obtain ⟨vi, vk, vw, si, sk, sw, hi, hk, hw, rfl⟩ := h
  obtain ⟨a, c, rfl, hr⟩ := hi.form
  refine FnS.perm (L' := si :: [(bt, .row [.slice a ids.length c, vk, vw] 35 3)] :: sk :: sw :: L) ?_ ((show ((sk ++ ([(bt, SObj.row [.slice a ids.length c, vk, vw] 35 3)] ++ (si ++ sw))) :: L).flatten.Perm (sk :: [(bt, .row [.slice a ids.length c, vk, vw] 35 3)] :: si :: sw :: L).flatten by simp).trans (PR sk [(bt, .row [.slice a ids.length c, vk, vw] 35 3)] si (sw :: L)))
  refine FnS.of (args := [.pointer (some ⟨bt, 0, none⟩), .int .i64 id]) Try.func12 rfl rfl ?_
  refine C.seq ?_
  refine C.region ?_
  refine G.assignI rfl trivial rfl rfl rfl ?_
  refine G.nil ?_
  refine C.seq ?_
  refine C.block ?_
  refine C.seq ?_
  refine C.region ?_
  refine G.moveI rfl trivial rfl rfl rfl ?_
  refine G.bin rfl trivial rfl rfl rfl rfl rfl ?_
  refine G.moveB rfl trivial rfl rfl rfl ?_
  refine G.fork (t := 8) _ rfl ?_ ?_
  · intro hg8
    refine G.skip rfl rfl rfl rfl rfl rfl ?_
    refine G.skip rfl rfl rfl rfl rfl rfl ?_
    first | refine G.pickT rfl trivial rfl rfl rfl rfl ?_ | refine G.pickF rfl trivial rfl rfl rfl rfl ?_
    refine G.assignB rfl trivial rfl rfl rfl ?_
    refine G.nil ?_
    refine C.condT rfl ?_
    refine C.seq ?_
    refine C.region ?_
    refine G.assignI rfl trivial rfl rfl rfl ?_
    refine G.nil ?_
    refine C.less (L' := (sk ++ ([(bt, .row [.slice a ids.length c, vk, vw] 35 3)] ++ (si ++ sw))) :: L) (fun _ h => (h.of_flat (PR si _ sk (sw :: L))).of_flat (by simp)) ?_
    refine C.ret ?_
    -- end g8T
    have hb : beginC ids id = 1 := by unfold beginC; rw [if_pos (.inl hg8)]
    rw [hb, if_neg (by decide)]
    exact ⟨rfl, _, Res.of (rs := [.tmp 4]) rfl rfl, _, hs, rfl, rfl⟩
  · intro hg8
    refine G.moveI rfl ⟨_, rfl, rfl, rfl⟩ rfl rfl rfl ?_
    refine G.bin rfl ⟨_, rfl, rfl, rfl⟩ rfl rfl rfl rfl rfl ?_
    first | refine G.pickT rfl trivial rfl rfl rfl rfl ?_ | refine G.pickF rfl trivial rfl rfl rfl rfl ?_
    refine G.assignB rfl trivial rfl rfl rfl ?_
    refine G.nil ?_
    refine C.cond _ rfl ?_ ?_
    · intro hc0
      refine C.seq ?_
      refine C.region ?_
      refine G.assignI rfl trivial rfl rfl rfl ?_
      refine G.nil ?_
      refine C.less (L' := (sk ++ ([(bt, .row [.slice a ids.length c, vk, vw] 35 3)] ++ (si ++ sw))) :: L) (fun _ h => (h.of_flat (PR si _ sk (sw :: L))).of_flat (by simp)) ?_
      refine C.ret ?_
      -- end g8Fc0T
      have hb : beginC ids id = 1 := by unfold beginC; rw [if_pos (.inr hc0)]
      rw [hb, if_neg (by decide)]
      exact ⟨rfl, _, Res.of (rs := [.tmp 4]) rfl rfl, _, hs, rfl, rfl⟩
    · intro hc0
      refine C.seq ?_
      refine C.region ?_
      refine G.moveP rfl trivial rfl rfl rfl ?_
      first | refine G.nilCheckP rfl trivial rfl rfl rfl ?_ | refine G.nilCheckF rfl trivial rfl rfl rfl ?_
      refine G.fieldAddr rfl trivial rfl rfl Try.underlying35 rfl I27 rfl rfl ?_
      refine G.loadAt (by first | exact .here | exact .next .here | exact .next (.next .here) | exact .next (.next (.next .here)) | exact .next (.next (.next (.next .here))) | exact .next (.next (.next (.next (.next .here)))) | exact .next (.next (.next (.next (.next (.next .here))))) | exact .next (.next (.next (.next (.next (.next (.next .here)))))) | exact .in1 | exact .next .in1 | exact .next (.next .in1) | exact .next (.next (.next .in1)) | exact .next (.next (.next (.next .in1))) | exact .in2 | exact .next .in2 | exact .next (.next .in2) | exact .next (.next (.next .in2)) | exact .next (.next (.next (.next .in2))) | exact .app .here | exact .app (.next .here) | exact .app (.next (.next .here)) | exact .app (.next (.next (.next .here))) | exact .app (.next (.next (.next (.next .here)))) | exact .app (.next (.next (.next (.next (.next .here))))) | exact .app (.next (.next (.next (.next (.next (.next .here)))))) | exact .app (.next (.next (.next (.next (.next (.next (.next .here))))))) | exact .app .in1 | exact .app .in2 | exact .app (.next .in1) | exact .next (.app .in1) | exact .next (.next (.app .in1)) | exact .next (.app .here) | exact .next (.next (.app .here)) | exact .next (.next (.next (.app .here))) | exact .next (.next (.next (.next (.app .here))))) rfl trivial rfl rfl Try.underlying27 rfl rfl (by rfl) ?_
      refine G.moveI rfl trivial rfl rfl rfl ?_
      refine G.call E24 rfl rfl trivial rfl rfl (in_spec W0 _ a c ids (hr W0 _) (by omega) id) rfl ?_
      rintro e L2 ⟨rfl, rfl⟩
      refine G.assignB rfl trivial rfl rfl rfl ?_
      refine G.nil ?_
      refine C.cond _ rfl ?_ ?_
      · intro hc1
        refine C.seq ?_
        refine C.region ?_
        refine G.assignI rfl trivial rfl rfl rfl ?_
        refine G.nil ?_
        refine C.less (L' := (sk ++ ([(bt, .row [.slice a ids.length c, vk, vw] 35 3)] ++ (si ++ sw))) :: L) (fun _ h => (h.of_flat (PR si _ sk (sw :: L))).of_flat (by simp)) ?_
        refine C.ret ?_
        -- end g8Fc0Fc1T
        have hb : beginC ids id = 7 := by unfold beginC; rw [if_neg (by omega), if_pos hc1]
        rw [hb, if_neg (by decide)]
        exact ⟨rfl, _, Res.of (rs := [.tmp 4]) rfl rfl, _, hs, rfl, rfl⟩
      · intro hc1
        refine C.seq ?_
        refine C.region ?_
        refine G.moveP rfl trivial rfl rfl rfl ?_
        first | refine G.nilCheckP rfl trivial rfl rfl rfl ?_ | refine G.nilCheckF rfl trivial rfl rfl rfl ?_
        refine G.fieldAddr rfl trivial rfl rfl Try.underlying35 rfl I27 rfl rfl ?_
        refine G.loadAt (by first | exact .here | exact .next .here | exact .next (.next .here) | exact .next (.next (.next .here)) | exact .next (.next (.next (.next .here))) | exact .next (.next (.next (.next (.next .here)))) | exact .next (.next (.next (.next (.next (.next .here))))) | exact .next (.next (.next (.next (.next (.next (.next .here)))))) | exact .in1 | exact .next .in1 | exact .next (.next .in1) | exact .next (.next (.next .in1)) | exact .next (.next (.next (.next .in1))) | exact .in2 | exact .next .in2 | exact .next (.next .in2) | exact .next (.next (.next .in2)) | exact .next (.next (.next (.next .in2))) | exact .app .here | exact .app (.next .here) | exact .app (.next (.next .here)) | exact .app (.next (.next (.next .here))) | exact .app (.next (.next (.next (.next .here)))) | exact .app (.next (.next (.next (.next (.next .here))))) | exact .app (.next (.next (.next (.next (.next (.next .here)))))) | exact .app (.next (.next (.next (.next (.next (.next (.next .here))))))) | exact .app .in1 | exact .app .in2 | exact .app (.next .in1) | exact .next (.app .in1) | exact .next (.next (.app .in1)) | exact .next (.app .here) | exact .next (.next (.app .here)) | exact .next (.next (.next (.app .here))) | exact .next (.next (.next (.next (.app .here))))) rfl trivial rfl rfl Try.underlying27 rfl rfl (by rfl) ?_
        refine G.lenSlice rfl trivial rfl rfl Try.underlying27 rfl ?_
        refine G.bin rfl trivial rfl rfl rfl rfl rfl ?_
        refine G.assignB rfl trivial rfl rfl rfl ?_
        refine G.nil ?_
        refine C.cond _ rfl ?_ ?_
        · intro hc2
          refine C.seq ?_
          refine C.region ?_
          refine G.assignI rfl trivial rfl rfl rfl ?_
          refine G.nil ?_
          refine C.less (L' := (sk ++ ([(bt, .row [.slice a ids.length c, vk, vw] 35 3)] ++ (si ++ sw))) :: L) (fun _ h => (h.of_flat (PR si _ sk (sw :: L))).of_flat (by simp)) ?_
          refine C.ret ?_
          -- end g8Fc0Fc1Fc2T
          have hb : beginC ids id = 4 := by unfold beginC; rw [if_neg (by omega), if_neg hc1, if_pos (by omega)]
          rw [hb, if_neg (by decide)]
          exact ⟨rfl, _, Res.of (rs := [.tmp 4]) rfl rfl, _, hs, rfl, rfl⟩
        · intro hc2
          refine C.skip ?_
          refine C.seq ?_
          refine C.region ?_
          refine G.moveP rfl trivial rfl rfl rfl ?_
          refine G.moveP rfl trivial rfl rfl rfl ?_
          first | refine G.nilCheckP rfl trivial rfl rfl rfl ?_ | refine G.nilCheckF rfl trivial rfl rfl rfl ?_
          refine G.fieldAddr rfl trivial rfl rfl Try.underlying35 rfl I27 rfl rfl ?_
          refine G.loadAt (by first | exact .here | exact .next .here | exact .next (.next .here) | exact .next (.next (.next .here)) | exact .next (.next (.next (.next .here))) | exact .next (.next (.next (.next (.next .here)))) | exact .next (.next (.next (.next (.next (.next .here))))) | exact .next (.next (.next (.next (.next (.next (.next .here)))))) | exact .in1 | exact .next .in1 | exact .next (.next .in1) | exact .next (.next (.next .in1)) | exact .next (.next (.next (.next .in1))) | exact .in2 | exact .next .in2 | exact .next (.next .in2) | exact .next (.next (.next .in2)) | exact .next (.next (.next (.next .in2))) | exact .app .here | exact .app (.next .here) | exact .app (.next (.next .here)) | exact .app (.next (.next (.next .here))) | exact .app (.next (.next (.next (.next .here)))) | exact .app (.next (.next (.next (.next (.next .here))))) | exact .app (.next (.next (.next (.next (.next (.next .here)))))) | exact .app (.next (.next (.next (.next (.next (.next (.next .here))))))) | exact .app .in1 | exact .app .in2 | exact .app (.next .in1) | exact .next (.app .in1) | exact .next (.next (.app .in1)) | exact .next (.app .here) | exact .next (.next (.app .here)) | exact .next (.next (.next (.app .here))) | exact .next (.next (.next (.next (.app .here))))) rfl trivial rfl rfl Try.underlying27 rfl rfl (by rfl) ?_
          refine G.moveI rfl trivial rfl rfl rfl ?_
          refine G.call E25 rfl rfl trivial rfl rfl (insert_spec W0 _ (.slice a ids.length c) ids si hi (by omega) id) rfl ?_
          rintro e L2 ⟨v32, s32, hv32, rfl, rfl⟩
          obtain ⟨a32, c32, rfl, _⟩ := hv32.form
          first | refine G.nilCheckP rfl trivial rfl rfl rfl ?_ | refine G.nilCheckF rfl trivial rfl rfl rfl ?_
          refine G.fieldAddr rfl trivial rfl rfl Try.underlying35 rfl I27 rfl rfl ?_
          refine G.store (v := .slice _ _ _) (by first | exact .here | exact .next .here | exact .next (.next .here) | exact .next (.next (.next .here)) | exact .next (.next (.next (.next .here))) | exact .next (.next (.next (.next (.next .here)))) | exact .next (.next (.next (.next (.next (.next .here))))) | exact .next (.next (.next (.next (.next (.next (.next .here)))))) | exact .in1 | exact .next .in1 | exact .next (.next .in1) | exact .next (.next (.next .in1)) | exact .next (.next (.next (.next .in1))) | exact .in2 | exact .next .in2 | exact .next (.next .in2) | exact .next (.next (.next .in2)) | exact .next (.next (.next (.next .in2))) | exact .app .here | exact .app (.next .here) | exact .app (.next (.next .here)) | exact .app (.next (.next (.next .here))) | exact .app (.next (.next (.next (.next .here)))) | exact .app (.next (.next (.next (.next (.next .here))))) | exact .app (.next (.next (.next (.next (.next (.next .here)))))) | exact .app (.next (.next (.next (.next (.next (.next (.next .here))))))) | exact .app .in1 | exact .app .in2 | exact .app (.next .in1) | exact .next (.app .in1) | exact .next (.next (.app .in1)) | exact .next (.app .here) | exact .next (.next (.app .here)) | exact .next (.next (.next (.app .here))) | exact .next (.next (.next (.next (.app .here))))) rfl trivial rfl I27 rfl rfl rfl (by first | decide | (simp; done) | (simp; omega)) _ (by first | (simp only [List.set_cons_succ, List.set_cons_zero]; done) | (simp only [List.set_cons_succ, List.set_cons_zero]; exact rfl) | exact rfl) ?_
          refine G.nil ?_
          refine C.seq ?_
          refine C.region ?_
          refine G.assignI rfl trivial rfl rfl rfl ?_
          refine G.nil ?_
          refine C.less (L' := (sk ++ ([(bt, .row [.slice a32 (insL ids id).length c32, vk, vw] 35 3)] ++ (s32 ++ sw))) :: L) (fun _ h => (h.of_flat (PR s32 _ sk (sw :: L))).of_flat (by simp)) ?_
          refine C.ret ?_
          -- end g8Fc0Fc1Fc2F
          have hb : beginC ids id = 0 := by unfold beginC; rw [if_neg (by omega), if_neg hc1, if_neg (by omega)]
          rw [hb, if_pos rfl]
          exact ⟨rfl, _, Res.of (rs := [.tmp 4]) rfl rfl, _, ⟨_, vk, vw, s32, sk, sw, hv32, hk, hw, rfl⟩, rfl, rfl⟩
theorem rtlock_spec (L : List Seg) (ids : List Int) (ls : List One) (es : List Edge) (s : Seg) (h : RtIs bt ids ls es s) (hl : ids.length ≤ 1000) (hls : ls.length ≤ 900) (hes : es.length ≤ 100000) (hms : Modes ls) (id mo : Int) (k : ByteArray) :
    FnS Try.prog W0 14 #[.pointer (some ⟨bt, 0, none⟩), .int .i64 id, .int .i64 mo, .string k] (s :: L) (fun e L' => ∃ r ls' es' s', RLockR ids ls es id mo k r ls' es' ∧ RtIs bt ids ls' es' s' ∧ L' = s' :: L ∧ e = .returned (.int .i64 r)) := by
  have hs := h
  obtain ⟨vi, vk, vw, si, sk, sw, hi, hk, hw, rfl⟩ := h
  obtain ⟨a, c, rfl, hr⟩ := hi.form
  refine FnS.perm (L' := sk :: [(bt, .row [.slice a ids.length c, vk, vw] 35 3)] :: si :: sw :: L) ?_ (by simp)
  generalize hx : lockOf id mo k = x
  have hon : (insAll (onL x ls)).length ≤ ls.length := Nat.le_trans (insAll_length _ _ rfl) (onL_le _ _)
  refine FnS.of (args := [.pointer (some ⟨bt, 0, none⟩), .int .i64 id, .int .i64 mo, .string k]) Try.func14 rfl rfl ?_
  refine C.seq ?_
  refine C.region ?_
  refine G.assignI rfl trivial rfl rfl rfl ?_
  refine G.nil ?_
  refine C.seq ?_
  refine C.seq ?_
  refine C.region ?_
  refine G.moveP rfl trivial rfl rfl rfl ?_
  first | refine G.nilCheckP rfl trivial rfl rfl rfl ?_ | refine G.nilCheckF rfl trivial rfl rfl rfl ?_
  refine G.fieldAddr rfl trivial rfl rfl Try.underlying35 rfl I27 rfl rfl ?_
  refine G.loadAt (by first | exact .here | exact .next .here | exact .next (.next .here) | exact .next (.next (.next .here)) | exact .next (.next (.next (.next .here))) | exact .next (.next (.next (.next (.next .here)))) | exact .next (.next (.next (.next (.next (.next .here))))) | exact .next (.next (.next (.next (.next (.next (.next .here)))))) | exact .in1 | exact .next .in1 | exact .next (.next .in1) | exact .next (.next (.next .in1)) | exact .next (.next (.next (.next .in1))) | exact .in2 | exact .next .in2 | exact .next (.next .in2) | exact .next (.next (.next .in2)) | exact .next (.next (.next (.next .in2))) | exact .app .here | exact .app (.next .here) | exact .app (.next (.next .here)) | exact .app (.next (.next (.next .here))) | exact .app (.next (.next (.next (.next .here)))) | exact .app (.next (.next (.next (.next (.next .here))))) | exact .app (.next (.next (.next (.next (.next (.next .here)))))) | exact .app (.next (.next (.next (.next (.next (.next (.next .here))))))) | exact .app .in1 | exact .app .in2 | exact .app (.next .in1) | exact .next (.app .in1) | exact .next (.next (.app .in1)) | exact .next (.app .here) | exact .next (.next (.app .here)) | exact .next (.next (.next (.app .here))) | exact .next (.next (.next (.next (.app .here))))) rfl trivial rfl rfl Try.underlying27 rfl rfl (by rfl) ?_
  refine G.moveI rfl trivial rfl rfl rfl ?_
  refine G.call E24 rfl rfl trivial rfl rfl (in_spec W0 _ a c ids (hr W0 _).cons.cons (by omega) id) rfl ?_
  rintro e L2 ⟨rfl, rfl⟩
  first | refine G.notD rfl trivial rfl rfl rfl ?_ | refine G.not rfl trivial rfl rfl rfl ?_
  refine G.nil ?_
  refine C.cond _ rfl ?_ ?_
  · intro hc0
    refine C.seq ?_
    refine C.region ?_
    refine G.assignI rfl trivial rfl rfl rfl ?_
    refine G.nil ?_
    refine C.less (L' := (sk ++ ([(bt, .row [.slice a ids.length c, vk, vw] 35 3)] ++ (si ++ sw))) :: L) (fun _ h => h.of_flat (by simp)) ?_
    refine C.ret ?_
    -- end c0T
    exact ⟨rfl, _, Res.of (rs := [.tmp 8]) rfl rfl, 6, ls, es, _, .inl ⟨hc0, rfl, rfl, rfl⟩, hs, rfl, rfl⟩
  · intro hc0
    have hin : id ∈ ids := Classical.not_not.1 hc0
    refine C.skip ?_
    refine C.seq ?_
    refine C.seq ?_
    refine C.region ?_
    refine G.moveI rfl trivial rfl rfl rfl ?_
    refine G.bin rfl trivial rfl rfl rfl rfl rfl ?_
    refine G.moveB rfl trivial rfl rfl rfl ?_
    refine G.fork (t := 20) _ rfl ?_ ?_
    · intro hg20
      refine G.skip rfl rfl rfl rfl rfl rfl ?_
      refine G.skip rfl rfl rfl rfl rfl rfl ?_
      first | refine G.pickT rfl trivial rfl rfl rfl rfl ?_ | refine G.pickF rfl trivial rfl rfl rfl rfl ?_
      refine G.nil ?_
      refine C.condT rfl ?_
      refine C.seq ?_
      refine C.region ?_
      refine G.assignI rfl trivial rfl rfl rfl ?_
      refine G.nil ?_
      refine C.less (L' := (sk ++ ([(bt, .row [.slice a ids.length c, vk, vw] 35 3)] ++ (si ++ sw))) :: L) (fun _ h => h.of_flat (by simp)) ?_
      refine C.ret ?_
      -- end c0Fg20T
      exact ⟨rfl, _, Res.of (rs := [.tmp 8]) rfl rfl, 1, ls, es, _, .inr (.inl ⟨hin, by omega, rfl, rfl, rfl⟩), hs, rfl, rfl⟩
    · intro hg20
      refine G.moveI rfl ⟨_, rfl, rfl, rfl⟩ rfl rfl rfl ?_
      refine G.bin rfl ⟨_, rfl, rfl, rfl⟩ rfl rfl rfl rfl rfl ?_
      first | refine G.pickT rfl trivial rfl rfl rfl rfl ?_ | refine G.pickF rfl trivial rfl rfl rfl rfl ?_
      refine G.nil ?_
      refine C.cond _ rfl ?_ ?_
      · intro hc1
        refine C.seq ?_
        refine C.region ?_
        refine G.assignI rfl trivial rfl rfl rfl ?_
        refine G.nil ?_
        refine C.less (L' := (sk ++ ([(bt, .row [.slice a ids.length c, vk, vw] 35 3)] ++ (si ++ sw))) :: L) (fun _ h => h.of_flat (by simp)) ?_
        refine C.ret ?_
        -- end c0Fg20Fc1T
        exact ⟨rfl, _, Res.of (rs := [.tmp 8]) rfl rfl, 1, ls, es, _, .inr (.inl ⟨hin, by omega, rfl, rfl, rfl⟩), hs, rfl, rfl⟩
      · intro hc1
        have hmo : 1 ≤ mo ∧ mo ≤ 3 := by omega
        refine C.skip ?_
        refine C.seq ?_
        refine C.region ?_
        refine G.moveP rfl trivial rfl rfl rfl ?_
        first | refine G.nilCheckP rfl trivial rfl rfl rfl ?_ | refine G.nilCheckF rfl trivial rfl rfl rfl ?_
        refine G.fieldAddr rfl trivial rfl rfl Try.underlying35 rfl I30 rfl rfl ?_
        refine G.moveI rfl trivial rfl rfl rfl ?_
        refine G.moveI rfl trivial rfl rfl rfl ?_
        refine G.moveT rfl trivial rfl rfl rfl ?_
        refine G.call E28 rfl rfl trivial rfl rfl (rlockK W0 (si :: sw :: L) bt (.slice a ids.length c) vw ls sk _ ⟨vk, hk, rfl⟩ hls hms id mo k hmo) rfl ?_
        rintro e L2 ⟨v, sv, s5, s6, hf2, hvo, rfl, rfl⟩
        rw [hx] at hf2 hvo ⊢
        obtain ⟨av, cv, rfl, hvr⟩ := hvo.form
        obtain ⟨vk2, hk2, rfl⟩ := hf2
        refine G.moveU rfl trivial rfl rfl rfl ?_
        refine G.extractL rfl trivial rfl rfl rfl rfl ?_
        refine G.extractL rfl trivial rfl rfl rfl rfl ?_
        refine G.assignS rfl trivial rfl rfl rfl ?_
        refine G.assignB rfl trivial rfl rfl rfl ?_
        refine G.nil ?_
        refine C.seq ?_
        refine C.seq ?_
        refine C.region ?_
        refine G.moveB rfl trivial rfl rfl rfl ?_
        refine G.nil ?_
        refine C.cond _ rfl ?_ ?_
        · intro hc2
          refine C.seq ?_
          refine C.region ?_
          refine G.moveP rfl trivial rfl rfl rfl ?_
          first | refine G.nilCheckP rfl trivial rfl rfl rfl ?_ | refine G.nilCheckF rfl trivial rfl rfl rfl ?_
          refine G.fieldAddr rfl trivial rfl rfl Try.underlying35 rfl I33 rfl rfl ?_
          refine G.moveI rfl trivial rfl rfl rfl ?_
          refine G.call E29 rfl rfl trivial rfl rfl (FnS.perm (rsetK W0 (sv :: s5 :: si :: L) bt (.slice a ids.length c) vk2 es sw _ ⟨vw, hw, rfl⟩ (by omega) id none 0 [] (by simp) Rd.nil (fun _ _ => Rd.nil)) (PT sv s5 _ si sw L)) rfl ?_
          rintro e L2 ⟨bb, es2, s7, s8, hb2, hw2, rfl, rfl⟩
          obtain ⟨vw2, hw2, rfl⟩ := hw2
          refine G.nil ?_
          refine C.seq ?_
          refine C.region ?_
          refine G.assignI rfl trivial rfl rfl rfl ?_
          refine G.nil ?_
          refine C.less (L' := (s5 ++ ([(bt, .row [.slice a ids.length c, vk2, vw2] 35 3)] ++ (si ++ s7))) :: L) (fun _ h => (h.of_flat (PU s7 _ sv s5 si L)).fewer (by simp)) ?_
          refine C.ret ?_
          -- end c0Fg20Fc1Fc2T
          rcases hb2 with ⟨rfl, _, rfl⟩ | ⟨_, hr, _⟩
          · exact ⟨rfl, _, Res.of (rs := [.tmp 8]) rfl rfl, 0, _, _, _, .inr (.inr (.inl ⟨hin, hmo, by rw [hx]; exact hc2, rfl, rfl, rfl⟩)), ⟨_, vk2, vw2, si, s5, s7, hi, by rw [hx]; exact hk2, hw2, rfl⟩, rfl, rfl⟩
          · exact absurd hr (rch_nil _ _)
        · intro hc2
          refine C.skip ?_
          refine C.seq ?_
          refine C.seq ?_
          refine C.region ?_
          refine G.moveP rfl trivial rfl rfl rfl ?_
          first | refine G.nilCheckP rfl trivial rfl rfl rfl ?_ | refine G.nilCheckF rfl trivial rfl rfl rfl ?_
          refine G.fieldAddr rfl trivial rfl rfl Try.underlying35 rfl I33 rfl rfl ?_
          refine G.moveI rfl trivial rfl rfl rfl ?_
          refine G.moveS rfl trivial rfl rfl rfl ?_
          refine G.call E29 rfl rfl trivial rfl rfl (FnS.perm (rsetK W0 (sv :: s5 :: si :: L) bt (.slice a ids.length c) vk2 es sw _ ⟨vw, hw, rfl⟩ (by omega) id av cv (insAll (onL x ls)) (by omega) (hvr W0 _).cons.cons (fun _ _ => (hvr W0 _).cons.cons)) (PT sv s5 _ si sw L)) rfl ?_
          rintro e L2 ⟨bb, es2, s7, s8, hb2, hw2, rfl, rfl⟩
          obtain ⟨vw2, hw2, rfl⟩ := hw2
          first | refine G.notD rfl trivial rfl rfl rfl ?_ | refine G.not rfl trivial rfl rfl rfl ?_
          refine G.nil ?_
          refine C.condB _ rfl ?_ ?_
          · intro hc3
            refine C.seq ?_
            refine C.region ?_
            refine G.assignI rfl trivial rfl rfl rfl ?_
            refine G.nil ?_
            refine C.less (L' := (s5 ++ ([(bt, .row [.slice a ids.length c, vk2, vw2] 35 3)] ++ (si ++ s7))) :: L) (fun _ h => (h.of_flat (PU s7 _ sv s5 si L)).fewer (by simp)) ?_
            refine C.ret ?_
            -- end c0Fg20Fc1Fc2Fc3T
            rcases hb2 with ⟨rfl, _, _⟩ | ⟨rfl, hr, rfl⟩
            · cases hc3
            rw [locked_no hc2] at hk2
            exact ⟨rfl, _, Res.of (rs := [.tmp 8]) rfl rfl, 11, ls, es2, _, .inr (.inr (.inr (.inl ⟨hin, hmo, by rw [hx]; exact hc2, by rw [hx]; exact hr, rfl, rfl, rfl⟩))), ⟨_, vk2, vw2, si, s5, s7, hi, hk2, hw2, rfl⟩, rfl, rfl⟩
          · intro hc3
            refine C.skip ?_
            refine C.seq ?_
            refine C.region ?_
            refine G.assignI rfl trivial rfl rfl rfl ?_
            refine G.nil ?_
            refine C.less (L' := (s5 ++ ([(bt, .row [.slice a ids.length c, vk2, vw2] 35 3)] ++ (si ++ s7))) :: L) (fun _ h => (h.of_flat (PU s7 _ sv s5 si L)).fewer (by simp)) ?_
            refine C.ret ?_
            -- end c0Fg20Fc1Fc2Fc3F
            rcases hb2 with ⟨rfl, hr, rfl⟩ | ⟨rfl, _, _⟩
            · rw [locked_no hc2] at hk2
              exact ⟨rfl, _, Res.of (rs := [.tmp 8]) rfl rfl, 10, ls, _, _, .inr (.inr (.inr (.inr ⟨hin, hmo, by rw [hx]; exact hc2, by rw [hx]; exact hr, rfl, rfl, by rw [hx]⟩))), ⟨_, vk2, vw2, si, s5, s7, hi, hk2, hw2, rfl⟩, rfl, rfl⟩
            · cases hc3
theorem rtend_spec (L : List Seg) (ids : List Int) (ls : List One) (es : List Edge) (s : Seg) (h : RtIs bt ids ls es s) (hl : ids.length ≤ 1000) (hls : ls.length ≤ 900) (hes : es.length ≤ 100000) (id : Int) :
    FnS Try.prog W0 16 #[.pointer (some ⟨bt, 0, none⟩), .int .i64 id] (s :: L) (fun e L' => ∃ s', (if id ∈ ids then RtIs bt (without id ids) (others id ls) (noneOf id es) s' else RtIs bt ids ls es s') ∧ L' = s' :: L ∧ e = .returned (.bool (decide (id ∈ ids)))) := by
  have hs := h
  obtain ⟨vi, vk, vw, si, sk, sw, hi, hk, hw, rfl⟩ := h
  obtain ⟨a, c, rfl, hr⟩ := hi.form
  refine FnS.perm (L' := sk :: [(bt, .row [.slice a ids.length c, vk, vw] 35 3)] :: si :: sw :: L) ?_ (by simp)
  refine FnS.of (args := [.pointer (some ⟨bt, 0, none⟩), .int .i64 id]) Try.func16 rfl rfl ?_
  refine C.seq ?_
  refine C.region ?_
  refine G.assignB rfl trivial rfl rfl rfl ?_
  refine G.nil ?_
  refine C.seq ?_
  refine C.seq ?_
  refine C.region ?_
  refine G.moveP rfl trivial rfl rfl rfl ?_
  first | refine G.nilCheckP rfl trivial rfl rfl rfl ?_ | refine G.nilCheckF rfl trivial rfl rfl rfl ?_
  refine G.fieldAddr rfl trivial rfl rfl Try.underlying35 rfl I27 rfl rfl ?_
  refine G.loadAt (by first | exact .here | exact .next .here | exact .next (.next .here) | exact .next (.next (.next .here)) | exact .next (.next (.next (.next .here))) | exact .next (.next (.next (.next (.next .here)))) | exact .next (.next (.next (.next (.next (.next .here))))) | exact .next (.next (.next (.next (.next (.next (.next .here)))))) | exact .in1 | exact .next .in1 | exact .next (.next .in1) | exact .next (.next (.next .in1)) | exact .next (.next (.next (.next .in1))) | exact .in2 | exact .next .in2 | exact .next (.next .in2) | exact .next (.next (.next .in2)) | exact .next (.next (.next (.next .in2))) | exact .app .here | exact .app (.next .here) | exact .app (.next (.next .here)) | exact .app (.next (.next (.next .here))) | exact .app (.next (.next (.next (.next .here)))) | exact .app (.next (.next (.next (.next (.next .here))))) | exact .app (.next (.next (.next (.next (.next (.next .here)))))) | exact .app (.next (.next (.next (.next (.next (.next (.next .here))))))) | exact .app .in1 | exact .app .in2 | exact .app (.next .in1) | exact .next (.app .in1) | exact .next (.next (.app .in1)) | exact .next (.app .here) | exact .next (.next (.app .here)) | exact .next (.next (.next (.app .here))) | exact .next (.next (.next (.next (.app .here))))) rfl trivial rfl rfl Try.underlying27 rfl rfl (by rfl) ?_
  refine G.moveI rfl trivial rfl rfl rfl ?_
  refine G.call E24 rfl rfl trivial rfl rfl (in_spec W0 _ a c ids (hr W0 _).cons.cons (by omega) id) rfl ?_
  rintro e L2 ⟨rfl, rfl⟩
  first | refine G.notD rfl trivial rfl rfl rfl ?_ | refine G.not rfl trivial rfl rfl rfl ?_
  refine G.nil ?_
  refine C.cond _ rfl ?_ ?_
  · intro hc0
    refine C.seq ?_
    refine C.region ?_
    refine G.assignB rfl trivial rfl rfl rfl ?_
    refine G.nil ?_
    refine C.less (L' := (sk ++ ([(bt, .row [.slice a ids.length c, vk, vw] 35 3)] ++ (si ++ sw))) :: L) (fun _ h => h.of_flat (by simp)) ?_
    refine C.ret ?_
    -- end c0T
    exact ⟨rfl, _, Res.of (rs := [.tmp 4]) rfl rfl, _, by rw [if_neg hc0]; exact hs, rfl, by rw [decide_eq_false hc0]; rfl⟩
  · intro hc0
    have hin : id ∈ ids := Classical.not_not.1 hc0
    refine C.skip ?_
    refine C.seq ?_
    refine C.region ?_
    refine G.assignS rfl trivial rfl rfl rfl ?_
    refine G.nil ?_
    refine C.seq ?_
    refine C.seq ?_
    refine C.region ?_
    refine G.assignI rfl trivial rfl rfl rfl ?_
    refine G.less (fun _ h => h.empty) ?_
    refine G.nil ?_
    refine C.block ?_
    refine C.loop (fun m F D' L' => ∃ (i : Nat) (ao : Option Addr) (co : Nat) (so : Seg), m = ids.length - i + 0 ∧ i ≤ ids.length ∧ OwnS (.slice ao (without id (ids.take i)).length co) (without id (ids.take i)).length ((without id (ids.take i)).map (Value.int .i64)) 2 1 so ∧ F 0 = .pointer (some ⟨bt, 0, none⟩) ∧ F 1 = .int .i64 id ∧ F 5 = .slice ao (without id (ids.take i)).length co ∧ F 6 = .int .i64 (i : Int) ∧ D' = [] ∧ so :: sk :: [(bt, .row [.slice a ids.length c, vk, vw] 35 3)] :: si :: sw :: L = L') ⟨_, ⟨0, none, 0, [], rfl, Nat.zero_le _, OwnS.nil _ _, rfl, rfl, rfl, rfl, rfl, rfl⟩⟩ ?_
    rintro m F D' L' ⟨i, ao, co, so, rfl, hi2, hon, h0, h1, h5, h6, rfl, rfl⟩
    refine C.fix (d := 0) h0 ?_
    refine C.fix (d := 1) h1 ?_
    refine C.fix (d := 5) h5 ?_
    refine C.fix (d := 6) h6 ?_
    refine C.seq ?_
    refine C.seq ?_
    refine C.region ?_
    refine G.moveI rfl trivial rfl rfl rfl ?_
    refine G.moveP rfl trivial rfl rfl rfl ?_
    first | refine G.nilCheckP rfl trivial rfl rfl rfl ?_ | refine G.nilCheckF rfl trivial rfl rfl rfl ?_
    refine G.fieldAddr rfl trivial rfl rfl Try.underlying35 rfl I27 rfl rfl ?_
    refine G.loadAt (by first | exact .here | exact .next .here | exact .next (.next .here) | exact .next (.next (.next .here)) | exact .next (.next (.next (.next .here))) | exact .next (.next (.next (.next (.next .here)))) | exact .next (.next (.next (.next (.next (.next .here))))) | exact .next (.next (.next (.next (.next (.next (.next .here)))))) | exact .in1 | exact .next .in1 | exact .next (.next .in1) | exact .next (.next (.next .in1)) | exact .next (.next (.next (.next .in1))) | exact .in2 | exact .next .in2 | exact .next (.next .in2) | exact .next (.next (.next .in2)) | exact .next (.next (.next (.next .in2))) | exact .app .here | exact .app (.next .here) | exact .app (.next (.next .here)) | exact .app (.next (.next (.next .here))) | exact .app (.next (.next (.next (.next .here)))) | exact .app (.next (.next (.next (.next (.next .here))))) | exact .app (.next (.next (.next (.next (.next (.next .here)))))) | exact .app (.next (.next (.next (.next (.next (.next (.next .here))))))) | exact .app .in1 | exact .app .in2 | exact .app (.next .in1) | exact .next (.app .in1) | exact .next (.next (.app .in1)) | exact .next (.app .here) | exact .next (.next (.app .here)) | exact .next (.next (.next (.app .here))) | exact .next (.next (.next (.next (.app .here))))) rfl trivial rfl rfl Try.underlying27 rfl rfl (by rfl) ?_
    refine G.lenSlice rfl trivial rfl rfl Try.underlying27 rfl ?_
    refine G.bin rfl trivial rfl rfl rfl rfl rfl ?_
    refine G.nil ?_
    refine C.cond _ rfl ?_ ?_
    · intro hc1
      have hlt : i < ids.length := by omega
      obtain ⟨bq, cq, kq, hveq, rfl, hq1, hq2⟩ := hi.block (by omega)
      cases hveq
      have hsn := without_take (t := id) hlt
      have hol := without_le id (ids.take i)
      rw [List.length_take] at hol
      refine C.skip ?_
      refine C.seq ?_
      refine C.block ?_
      refine C.seq ?_
      refine C.region ?_
      refine G.moveP rfl trivial rfl rfl rfl ?_
      first | refine G.nilCheckP rfl trivial rfl rfl rfl ?_ | refine G.nilCheckF rfl trivial rfl rfl rfl ?_
      refine G.fieldAddr rfl trivial rfl rfl Try.underlying35 rfl I27 rfl rfl ?_
      refine G.loadAt (by first | exact .here | exact .next .here | exact .next (.next .here) | exact .next (.next (.next .here)) | exact .next (.next (.next (.next .here))) | exact .next (.next (.next (.next (.next .here)))) | exact .next (.next (.next (.next (.next (.next .here))))) | exact .next (.next (.next (.next (.next (.next (.next .here)))))) | exact .in1 | exact .next .in1 | exact .next (.next .in1) | exact .next (.next (.next .in1)) | exact .next (.next (.next (.next .in1))) | exact .in2 | exact .next .in2 | exact .next (.next .in2) | exact .next (.next (.next .in2)) | exact .next (.next (.next (.next .in2))) | exact .app .here | exact .app (.next .here) | exact .app (.next (.next .here)) | exact .app (.next (.next (.next .here))) | exact .app (.next (.next (.next (.next .here)))) | exact .app (.next (.next (.next (.next (.next .here))))) | exact .app (.next (.next (.next (.next (.next (.next .here)))))) | exact .app (.next (.next (.next (.next (.next (.next (.next .here))))))) | exact .app .in1 | exact .app .in2 | exact .app (.next .in1) | exact .next (.app .in1) | exact .next (.next (.app .in1)) | exact .next (.app .here) | exact .next (.next (.app .here)) | exact .next (.next (.next (.app .here))) | exact .next (.next (.next (.next (.app .here))))) rfl trivial rfl rfl Try.underlying27 rfl rfl (by rfl) ?_
      refine G.moveI rfl trivial rfl rfl rfl ?_
      refine G.idxN rfl trivial rfl rfl Try.underlying27 I2 rfl rfl (by omega) ?_
      refine G.loadAt (.next (.next (.next .here))) rfl trivial rfl rfl Try.underlying2 rfl rfl (map_at hlt) ?_
      refine G.moveI rfl trivial rfl rfl rfl ?_
      refine G.bin rfl trivial rfl rfl rfl rfl rfl ?_
      refine G.nil ?_
      refine C.cond _ rfl ?_ ?_
      · intro hc2
        refine C.region ?_
        refine G.moveS rfl trivial rfl rfl rfl ?_
        refine G.moveP rfl trivial rfl rfl rfl ?_
        first | refine G.nilCheckP rfl trivial rfl rfl rfl ?_ | refine G.nilCheckF rfl trivial rfl rfl rfl ?_
        refine G.fieldAddr rfl trivial rfl rfl Try.underlying35 rfl I27 rfl rfl ?_
        refine G.loadAt (by first | exact .here | exact .next .here | exact .next (.next .here) | exact .next (.next (.next .here)) | exact .next (.next (.next (.next .here))) | exact .next (.next (.next (.next (.next .here)))) | exact .next (.next (.next (.next (.next (.next .here))))) | exact .next (.next (.next (.next (.next (.next (.next .here)))))) | exact .in1 | exact .next .in1 | exact .next (.next .in1) | exact .next (.next (.next .in1)) | exact .next (.next (.next (.next .in1))) | exact .in2 | exact .next .in2 | exact .next (.next .in2) | exact .next (.next (.next .in2)) | exact .next (.next (.next (.next .in2))) | exact .app .here | exact .app (.next .here) | exact .app (.next (.next .here)) | exact .app (.next (.next (.next .here))) | exact .app (.next (.next (.next (.next .here)))) | exact .app (.next (.next (.next (.next (.next .here))))) | exact .app (.next (.next (.next (.next (.next (.next .here)))))) | exact .app (.next (.next (.next (.next (.next (.next (.next .here))))))) | exact .app .in1 | exact .app .in2 | exact .app (.next .in1) | exact .next (.app .in1) | exact .next (.next (.app .in1)) | exact .next (.app .here) | exact .next (.next (.app .here)) | exact .next (.next (.next (.app .here))) | exact .next (.next (.next (.next (.app .here))))) rfl trivial rfl rfl Try.underlying27 rfl rfl (by rfl) ?_
        refine G.moveI rfl trivial rfl rfl rfl ?_
        refine G.idxN rfl trivial rfl rfl Try.underlying27 I2 rfl rfl (by omega) ?_
        refine G.loadAt (.next (.next (.next .here))) rfl trivial rfl rfl Try.underlying2 rfl rfl (map_at hlt) ?_
        refine G.buildSliceL (cs := [.int .i64 ids[i]!]) (zs := [(.int .i64 0)]) rfl trivial rfl rfl Try.underlying27 I2 rfl (by kernel_rfl) rfl rfl ?_
        intro b40
        refine G.less (fun _ h => h.perm2) ?_
        refine G.append hon rfl trivial rfl rfl Try.underlying27 Try.underlying27 I2 rfl (by decide) rfl rfl (by decide) (Rd.row0 (.next .here)) rfl (by simp [cellsOk]) (by omega) ?_
        intro v41 s41 hv41
        obtain ⟨a41, c41, rfl, _⟩ := hv41.form
        refine G.assignS rfl trivial rfl rfl rfl ?_
        refine G.nil ?_
        refine C.region ?_
        refine G.moveI rfl trivial rfl rfl rfl ?_
        refine G.addN (j := 1) rfl trivial rfl rfl rfl rfl (by omega) ?_
        refine G.assignI rfl trivial rfl rfl rfl ?_
        refine G.less (fun _ h => h.skip1) ?_
        refine G.nil ?_
        have e1 : without id (ids.take (i + 1)) = without id (ids.take i) ++ [ids[i]!] := by rw [hsn, if_neg hc2]
        exact ⟨ids.length - (i + 1) + 0, by omega, i + 1, a41, c41, s41, rfl, by omega, by rw [e1, List.length_append, List.map_append]; simpa using hv41, rfl, rfl, by rw [e1, List.length_append]; rfl, rfl, rfl, rfl⟩
      · intro hc2
        refine C.skip ?_
        refine C.region ?_
        refine G.moveI rfl trivial rfl rfl rfl ?_
        refine G.addN (j := 1) rfl trivial rfl rfl rfl rfl (by omega) ?_
        refine G.assignI rfl trivial rfl rfl rfl ?_
        refine G.nil ?_
        have e1 : without id (ids.take (i + 1)) = without id (ids.take i) := by rw [hsn, if_pos (Classical.not_not.1 hc2)]
        exact ⟨ids.length - (i + 1) + 0, by omega, i + 1, ao, co, so, rfl, by omega, by rw [e1]; exact hon, rfl, rfl, by rw [e1]; rfl, rfl, rfl, rfl⟩
    · intro hc1
      rw [List.take_of_length_le (show ids.length ≤ i by omega)] at hon h5 ⊢
      refine C.exit ?_
      refine C.seq ?_
      refine C.region ?_
      refine G.moveP rfl trivial rfl rfl rfl ?_
      refine G.moveS rfl trivial rfl rfl rfl ?_
      first | refine G.nilCheckP rfl trivial rfl rfl rfl ?_ | refine G.nilCheckF rfl trivial rfl rfl rfl ?_
      refine G.fieldAddr rfl trivial rfl rfl Try.underlying35 rfl I27 rfl rfl ?_
      refine G.store (v := .slice _ _ _) (by first | exact .here | exact .next .here | exact .next (.next .here) | exact .next (.next (.next .here)) | exact .next (.next (.next (.next .here))) | exact .next (.next (.next (.next (.next .here)))) | exact .next (.next (.next (.next (.next (.next .here))))) | exact .next (.next (.next (.next (.next (.next (.next .here)))))) | exact .in1 | exact .next .in1 | exact .next (.next .in1) | exact .next (.next (.next .in1)) | exact .next (.next (.next (.next .in1))) | exact .in2 | exact .next .in2 | exact .next (.next .in2) | exact .next (.next (.next .in2)) | exact .next (.next (.next (.next .in2))) | exact .app .here | exact .app (.next .here) | exact .app (.next (.next .here)) | exact .app (.next (.next (.next .here))) | exact .app (.next (.next (.next (.next .here)))) | exact .app (.next (.next (.next (.next (.next .here))))) | exact .app (.next (.next (.next (.next (.next (.next .here)))))) | exact .app (.next (.next (.next (.next (.next (.next (.next .here))))))) | exact .app .in1 | exact .app .in2 | exact .app (.next .in1) | exact .next (.app .in1) | exact .next (.next (.app .in1)) | exact .next (.app .here) | exact .next (.next (.app .here)) | exact .next (.next (.next (.app .here))) | exact .next (.next (.next (.next (.app .here))))) rfl trivial rfl I27 rfl rfl rfl (by first | decide | (simp; done) | (simp; omega)) _ (by first | (simp only [List.set_cons_succ, List.set_cons_zero]; done) | (simp only [List.set_cons_succ, List.set_cons_zero]; exact rfl) | exact rfl) ?_
      refine G.less (L' := sk :: [(bt, .row [.slice ao (without id ids).length co, vk, vw] 35 3)] :: so :: sw :: L) (fun _ h => (h.of_flat (PS [so] [sk, [(bt, .row [.slice ao (without id ids).length co, vk, vw] 35 3)]] (si :: sw :: L))).fewer (by simp)) ?_
      refine G.nil ?_
      refine C.seq ?_
      refine C.region ?_
      refine G.moveP rfl trivial rfl rfl rfl ?_
      first | refine G.nilCheckP rfl trivial rfl rfl rfl ?_ | refine G.nilCheckF rfl trivial rfl rfl rfl ?_
      refine G.fieldAddr rfl trivial rfl rfl Try.underlying35 rfl I30 rfl rfl ?_
      refine G.moveI rfl trivial rfl rfl rfl ?_
      refine G.call E34 rfl rfl trivial rfl rfl (rfreeK W0 (so :: sw :: L) bt (.slice ao (without id ids).length co) vw ls sk _ ⟨vk, hk, rfl⟩ (by omega) id) rfl ?_
      rintro e L2 ⟨s5, s6, ⟨vk2, hk2, rfl⟩, rfl, rfl⟩
      refine G.nil ?_
      refine C.seq ?_
      refine C.region ?_
      refine G.moveP rfl trivial rfl rfl rfl ?_
      first | refine G.nilCheckP rfl trivial rfl rfl rfl ?_ | refine G.nilCheckF rfl trivial rfl rfl rfl ?_
      refine G.fieldAddr rfl trivial rfl rfl Try.underlying35 rfl I33 rfl rfl ?_
      refine G.moveI rfl trivial rfl rfl rfl ?_
      refine G.call E35 rfl rfl trivial rfl rfl (FnS.perm (rclearK W0 (s5 :: so :: L) bt (.slice ao (without id ids).length co) vk2 es sw _ ⟨vw, hw, rfl⟩ (by omega) id) (PV s5 _ so sw L)) rfl ?_
      rintro e L2 ⟨s7, s8, ⟨vw2, hw2, rfl⟩, rfl, rfl⟩
      refine G.nil ?_
      refine C.seq ?_
      refine C.region ?_
      refine G.assignB rfl trivial rfl rfl rfl ?_
      refine G.nil ?_
      refine C.less (L' := (s5 ++ ([(bt, .row [.slice ao (without id ids).length co, vk2, vw2] 35 3)] ++ (so ++ s7))) :: L) (fun _ h => (h.of_flat (PW s7 _ s5 so L)).of_flat (by simp)) ?_
      refine C.ret ?_
      -- end c0Fc1F
      exact ⟨rfl, _, Res.of (rs := [.tmp 4]) rfl rfl, _, by rw [if_pos hin]; exact ⟨_, vk2, vw2, so, s5, s7, hon, hk2, hw2, rfl⟩, rfl, by rw [decide_eq_true hin]; rfl⟩
end ref
end Go.Proofs.Ytomiidlbfcfpiaa
