/-
  Transactions: Lock, End walked.
-/
import Derived.Test.YtomiidlbfcfpiaaTx0
namespace Go.Proofs.Ytomiidlbfcfpiaa
open Go Go.SL Go.RowKit Go.Sort

section txn
variable (W0 : World) (bt : Nat)
theorem tlock_spec (L : List Seg) (ids : List Int) (ls : List One) (g : Int → List Int) (N : Nat) (s : Seg) (h : TxIs bt ids ls g N s) (hl : ids.length ≤ 1000) (hls : ls.length ≤ 900) (hN : N ≤ 1000) (id mo : Int) (k : ByteArray) :
    FnS Try.prog W0 13 #[.pointer (some ⟨bt, 0, none⟩), .int .i64 id, .int .i64 mo, .string k] (s :: L) (fun e L' => ∃ r ls' g' s', LockR ids ls g id mo k r ls' g' ∧ TxIs bt ids ls' g' (N + 1) s' ∧ L' = s' :: L ∧ e = .returned (.int .i64 r)) := by
  obtain ⟨vi, si, bk, l1, l2, bw, w1, w2, w3, hv, hk, hw, rfl⟩ := h
  refine FnS.perm (L' := si :: [(bt, .row [vi, .pointer (some ⟨bk, 0, none⟩), .pointer (some ⟨bw, 0, none⟩)] 54 3)] :: l1 :: l2 :: w1 :: w2 :: w3 :: L) ?_ (by simp)
  generalize hx : lockOf id mo k = x
  refine FnS.of (args := [.pointer (some ⟨bt, 0, none⟩), .int .i64 id, .int .i64 mo, .string k]) Try.func13 rfl rfl ?_
  refine C.seq ?_
  refine C.region ?_
  refine G.assignI rfl trivial rfl rfl rfl ?_
  refine G.nil ?_
  refine C.seq ?_
  refine C.block ?_
  refine C.seq ?_
  refine C.region ?_
  refine G.moveP rfl trivial rfl rfl rfl ?_
  refine G.ptrEq rfl trivial rfl rfl Try.underlying24 rfl rfl ?_
  refine G.assignB rfl trivial rfl rfl rfl ?_
  refine G.nil ?_
  refine C.condF rfl ?_
  refine C.seq ?_
  refine C.region ?_
  refine G.moveP rfl trivial rfl rfl rfl ?_
  refine G.moveI rfl trivial rfl rfl rfl ?_
  refine G.call E19 rfl rfl trivial rfl rfl (tis_open W0 bt _ _ _ _ ids si hv hl id) rfl ?_
  rintro e L2 ⟨rfl, rfl⟩
  first | refine G.notD rfl trivial rfl rfl rfl ?_ | refine G.not rfl trivial rfl rfl rfl ?_
  refine G.assignB rfl trivial rfl rfl rfl ?_
  refine G.nil ?_
  refine C.cond _ rfl ?_ ?_
  · intro hc1
    refine C.seq ?_
    refine C.region ?_
    refine G.assignI rfl trivial rfl rfl rfl ?_
    refine G.nil ?_
    refine C.less (L' := (si ++ ([(bt, .row [vi, .pointer (some ⟨bk, 0, none⟩), .pointer (some ⟨bw, 0, none⟩)] 54 3)] ++ (l1 ++ (l2 ++ (w1 ++ (w2 ++ w3)))))) :: L) (fun _ h => h.of_flat (by simp)) ?_
    refine C.ret ?_
    -- end c1T
    exact ⟨rfl, _, Res.of (rs := [.tmp 8]) rfl rfl, 6, ls, g, _, .inl ⟨hc1, rfl, rfl, rfl⟩, ⟨vi, si, bk, l1, l2, bw, w1, w2, w3, hv, hk, hw.more, rfl⟩, rfl, rfl⟩
  · intro hc1
    have hin : id ∈ ids := Classical.not_not.1 hc1
    refine C.skip ?_
    refine C.seq ?_
    refine C.region ?_
    refine G.moveP rfl trivial rfl rfl rfl ?_
    first | refine G.nilCheckP rfl trivial rfl rfl rfl ?_ | refine G.nilCheckF rfl trivial rfl rfl rfl ?_
    refine G.fieldAddr rfl trivial rfl rfl Try.underlying54 rfl I49 rfl rfl ?_
    refine G.loadAt (by first | exact .here | exact .next .here | exact .next (.next .here) | exact .next (.next (.next .here)) | exact .next (.next (.next (.next .here))) | exact .next (.next (.next (.next (.next .here)))) | exact .next (.next (.next (.next (.next (.next .here))))) | exact .next (.next (.next (.next (.next (.next (.next .here)))))) | exact .in1 | exact .next .in1 | exact .next (.next .in1) | exact .next (.next (.next .in1)) | exact .next (.next (.next (.next .in1))) | exact .in2 | exact .next .in2 | exact .next (.next .in2) | exact .next (.next (.next .in2)) | exact .next (.next (.next (.next .in2))) | exact .app .here | exact .app (.next .here) | exact .app (.next (.next .here)) | exact .app (.next (.next (.next .here))) | exact .app (.next (.next (.next (.next .here)))) | exact .app (.next (.next (.next (.next (.next .here))))) | exact .app (.next (.next (.next (.next (.next (.next .here)))))) | exact .app (.next (.next (.next (.next (.next (.next (.next .here))))))) | exact .app .in1 | exact .app .in2 | exact .app (.next .in1) | exact .next (.app .in1) | exact .next (.next (.app .in1)) | exact .next (.app .here) | exact .next (.next (.app .here)) | exact .next (.next (.next (.app .here))) | exact .next (.next (.next (.next (.app .here))))) rfl trivial rfl rfl Try.underlying49 rfl rfl (by rfl) ?_
    refine G.moveI rfl trivial rfl rfl rfl ?_
    refine G.moveI rfl trivial rfl rfl rfl ?_
    refine G.moveT rfl trivial rfl rfl rfl ?_
    by_cases hmo : 1 ≤ mo ∧ mo ≤ 3
    ·
      refine G.call E26 rfl rfl trivial rfl rfl (FnS.perm (lock_spec W0 _ bk ls l1 l2 hk hls id mo k hmo) P22) rfl ?_
      rintro e L2 ⟨v, sv, l3, l4, hk2, hvo, rfl, rfl⟩
      rw [hx] at hk2 hvo ⊢
      obtain ⟨av, cv, rfl, hvr⟩ := hvo.form
      have hrl : (refused x ls).length ≤ 900 := by have := compact_le (sortL (onL x ls)); rw [sortL_length] at this; have := onL_le x ls; unfold refused; omega
      refine G.moveU rfl trivial rfl rfl rfl ?_
      refine G.extractL rfl trivial rfl rfl rfl rfl ?_
      refine G.extractL rfl trivial rfl rfl rfl rfl ?_
      refine G.assignS rfl trivial rfl rfl rfl ?_
      refine G.assignB rfl trivial rfl rfl rfl ?_
      refine G.nil ?_
      refine C.seq ?_
      refine C.block ?_
      refine C.seq ?_
      refine C.region ?_
      refine G.moveB rfl trivial rfl rfl rfl ?_
      first | refine G.notD rfl trivial rfl rfl rfl ?_ | refine G.not rfl trivial rfl rfl rfl ?_
      refine G.moveB rfl trivial rfl rfl rfl ?_
      refine G.fork (t := 33) _ rfl ?_ ?_
      · intro hg33
        refine G.moveS rfl ⟨_, rfl, rfl, rfl⟩ rfl rfl rfl ?_
        refine G.lenSlice rfl ⟨_, rfl, rfl, rfl⟩ rfl rfl Try.underlying27 rfl ?_
        refine G.bin rfl ⟨_, rfl, rfl, rfl⟩ rfl rfl rfl rfl rfl ?_
        first | refine G.pickT rfl trivial rfl rfl rfl rfl ?_ | refine G.pickF rfl trivial rfl rfl rfl rfl ?_
        refine G.assignB rfl trivial rfl rfl rfl ?_
        refine G.nil ?_
        refine C.no rfl (by have := refused_ne hg33; omega) ?_
        refine C.seq ?_
        refine C.region ?_
        refine G.moveP rfl trivial rfl rfl rfl ?_
        first | refine G.nilCheckP rfl trivial rfl rfl rfl ?_ | refine G.nilCheckF rfl trivial rfl rfl rfl ?_
        refine G.fieldAddr rfl trivial rfl rfl Try.underlying54 rfl I51 rfl rfl ?_
        refine G.loadAt (by first | exact .here | exact .next .here | exact .next (.next .here) | exact .next (.next (.next .here)) | exact .next (.next (.next (.next .here))) | exact .next (.next (.next (.next (.next .here)))) | exact .next (.next (.next (.next (.next (.next .here))))) | exact .next (.next (.next (.next (.next (.next (.next .here)))))) | exact .in1 | exact .next .in1 | exact .next (.next .in1) | exact .next (.next (.next .in1)) | exact .next (.next (.next (.next .in1))) | exact .in2 | exact .next .in2 | exact .next (.next .in2) | exact .next (.next (.next .in2)) | exact .next (.next (.next (.next .in2))) | exact .app .here | exact .app (.next .here) | exact .app (.next (.next .here)) | exact .app (.next (.next (.next .here))) | exact .app (.next (.next (.next (.next .here)))) | exact .app (.next (.next (.next (.next (.next .here))))) | exact .app (.next (.next (.next (.next (.next (.next .here)))))) | exact .app (.next (.next (.next (.next (.next (.next (.next .here))))))) | exact .app .in1 | exact .app .in2 | exact .app (.next .in1) | exact .next (.app .in1) | exact .next (.next (.app .in1)) | exact .next (.app .here) | exact .next (.next (.app .here)) | exact .next (.next (.next (.app .here))) | exact .next (.next (.next (.next (.app .here))))) rfl trivial rfl rfl Try.underlying51 rfl rfl (by rfl) ?_
        refine G.moveI rfl trivial rfl rfl rfl ?_
        refine G.moveS rfl trivial rfl rfl rfl ?_
        refine G.call E27 rfl rfl trivial rfl rfl (FnS.perm (set_spec W0 _ bw g N w1 w2 w3 hw hN id av cv (refused x ls) (by omega) (hvr W0 _).cons.cons.cons) (PS [sv, l3, l4, si, [(bt, .row [vi, .pointer (some ⟨bk, 0, none⟩), .pointer (some ⟨bw, 0, none⟩)] 54 3)]] [w1, w2, w3] L)) rfl ?_
        rintro e L2 ⟨bb, g2, w4, w5, w6, hb2, hw2, rfl, rfl⟩
        have hpack : ∀ w, Mem W0 w (w4 :: w5 :: w6 :: sv :: l3 :: l4 :: si :: [(bt, .row [vi, .pointer (some ⟨bk, 0, none⟩), .pointer (some ⟨bw, 0, none⟩)] 54 3)] :: L) → Mem W0 w ((si ++ ([(bt, .row [vi, .pointer (some ⟨bk, 0, none⟩), .pointer (some ⟨bw, 0, none⟩)] 54 3)] ++ (l3 ++ (l4 ++ (w4 ++ (w5 ++ w6)))))) :: L) := fun w h => ((h.of_flat (PS [w4, w5, w6] [sv, l3, l4, si, [(bt, .row [vi, .pointer (some ⟨bk, 0, none⟩), .pointer (some ⟨bw, 0, none⟩)] 54 3)]] L)).tail.of_flat (PS [l3, l4] [si, [(bt, .row [vi, .pointer (some ⟨bk, 0, none⟩), .pointer (some ⟨bw, 0, none⟩)] 54 3)]] (w4 :: w5 :: w6 :: L))).of_flat (by simp)
        have href : refused x ls = insAll (onL x ls) := set_same _
        rw [href, insAll_idem] at hb2
        first | refine G.notD rfl trivial rfl rfl rfl ?_ | refine G.not rfl trivial rfl rfl rfl ?_
        refine G.assignB rfl trivial rfl rfl rfl ?_
        refine G.nil ?_
        refine C.condB _ rfl ?_ ?_
        · intro hc3
          refine C.seq ?_
          refine C.region ?_
          refine G.assignI rfl trivial rfl rfl rfl ?_
          refine G.nil ?_
          refine C.less hpack ?_
          refine C.ret ?_
          -- end c1Fx27Tg33Tc3T
          rcases hb2 with ⟨rfl, _, _⟩ | ⟨rfl, hr, rfl⟩
          · cases hc3
          rw [locked_no hg33] at hk2
          exact ⟨rfl, _, Res.of (rs := [.tmp 8]) rfl rfl, 11, ls, g2, _, .inr (.inr (.inr (.inl ⟨hin, hmo, by rw [hx]; exact hg33, by rw [hx]; exact hr, rfl, rfl, rfl⟩))), ⟨vi, si, bk, l3, l4, bw, w4, w5, w6, hv, hk2, hw2, rfl⟩, rfl, rfl⟩
        · intro hc3
          refine C.seq ?_
          refine C.region ?_
          refine G.moveB rfl trivial rfl rfl rfl ?_
          first | refine G.notD rfl trivial rfl rfl rfl ?_ | refine G.not rfl trivial rfl rfl rfl ?_
          refine G.assignB rfl trivial rfl rfl rfl ?_
          refine G.nil ?_
          refine C.yes rfl hg33 ?_
          refine C.seq ?_
          refine C.region ?_
          refine G.assignI rfl trivial rfl rfl rfl ?_
          refine G.nil ?_
          refine C.less hpack ?_
          refine C.ret ?_
          -- end c1Fx27Tg33Tc3F
          rcases hb2 with ⟨rfl, hr, rfl⟩ | ⟨rfl, _, _⟩
          · rw [locked_no hg33] at hk2
            exact ⟨rfl, _, Res.of (rs := [.tmp 8]) rfl rfl, 10, ls, _, _, .inr (.inr (.inr (.inr ⟨hin, hmo, by rw [hx]; exact hg33, by rw [hx]; exact hr, rfl, rfl, by rw [hx]⟩))), ⟨vi, si, bk, l3, l4, bw, w4, w5, w6, hv, hk2, hw2, rfl⟩, rfl, rfl⟩
          · cases hc3
      · intro hg33
        refine G.skip rfl rfl rfl rfl rfl rfl ?_
        refine G.skip rfl rfl rfl rfl rfl rfl ?_
        refine G.skip rfl rfl rfl rfl rfl rfl ?_
        first | refine G.pickT rfl trivial rfl rfl rfl rfl ?_ | refine G.pickF rfl trivial rfl rfl rfl rfl ?_
        refine G.assignB rfl trivial rfl rfl rfl ?_
        refine G.nil ?_
        refine C.condF rfl ?_
        refine C.seq ?_
        refine C.region ?_
        refine G.moveP rfl trivial rfl rfl rfl ?_
        first | refine G.nilCheckP rfl trivial rfl rfl rfl ?_ | refine G.nilCheckF rfl trivial rfl rfl rfl ?_
        refine G.fieldAddr rfl trivial rfl rfl Try.underlying54 rfl I51 rfl rfl ?_
        refine G.loadAt (by first | exact .here | exact .next .here | exact .next (.next .here) | exact .next (.next (.next .here)) | exact .next (.next (.next (.next .here))) | exact .next (.next (.next (.next (.next .here)))) | exact .next (.next (.next (.next (.next (.next .here))))) | exact .next (.next (.next (.next (.next (.next (.next .here)))))) | exact .in1 | exact .next .in1 | exact .next (.next .in1) | exact .next (.next (.next .in1)) | exact .next (.next (.next (.next .in1))) | exact .in2 | exact .next .in2 | exact .next (.next .in2) | exact .next (.next (.next .in2)) | exact .next (.next (.next (.next .in2))) | exact .app .here | exact .app (.next .here) | exact .app (.next (.next .here)) | exact .app (.next (.next (.next .here))) | exact .app (.next (.next (.next (.next .here)))) | exact .app (.next (.next (.next (.next (.next .here))))) | exact .app (.next (.next (.next (.next (.next (.next .here)))))) | exact .app (.next (.next (.next (.next (.next (.next (.next .here))))))) | exact .app .in1 | exact .app .in2 | exact .app (.next .in1) | exact .next (.app .in1) | exact .next (.next (.app .in1)) | exact .next (.app .here) | exact .next (.next (.app .here)) | exact .next (.next (.next (.app .here))) | exact .next (.next (.next (.next (.app .here))))) rfl trivial rfl rfl Try.underlying51 rfl rfl (by rfl) ?_
        refine G.moveI rfl trivial rfl rfl rfl ?_
        refine G.moveS rfl trivial rfl rfl rfl ?_
        refine G.call E27 rfl rfl trivial rfl rfl (FnS.perm (set_spec W0 _ bw g N w1 w2 w3 hw hN id av cv (refused x ls) (by omega) (hvr W0 _).cons.cons.cons) (PS [sv, l3, l4, si, [(bt, .row [vi, .pointer (some ⟨bk, 0, none⟩), .pointer (some ⟨bw, 0, none⟩)] 54 3)]] [w1, w2, w3] L)) rfl ?_
        rintro e L2 ⟨bb, g2, w4, w5, w6, hb2, hw2, rfl, rfl⟩
        have hpack : ∀ w, Mem W0 w (w4 :: w5 :: w6 :: sv :: l3 :: l4 :: si :: [(bt, .row [vi, .pointer (some ⟨bk, 0, none⟩), .pointer (some ⟨bw, 0, none⟩)] 54 3)] :: L) → Mem W0 w ((si ++ ([(bt, .row [vi, .pointer (some ⟨bk, 0, none⟩), .pointer (some ⟨bw, 0, none⟩)] 54 3)] ++ (l3 ++ (l4 ++ (w4 ++ (w5 ++ w6)))))) :: L) := fun w h => ((h.of_flat (PS [w4, w5, w6] [sv, l3, l4, si, [(bt, .row [vi, .pointer (some ⟨bk, 0, none⟩), .pointer (some ⟨bw, 0, none⟩)] 54 3)]] L)).tail.of_flat (PS [l3, l4] [si, [(bt, .row [vi, .pointer (some ⟨bk, 0, none⟩), .pointer (some ⟨bw, 0, none⟩)] 54 3)]] (w4 :: w5 :: w6 :: L))).of_flat (by simp)
        have href : refused x ls = insAll (onL x ls) := set_same _
        rw [href, insAll_idem] at hb2
        first | refine G.notD rfl trivial rfl rfl rfl ?_ | refine G.not rfl trivial rfl rfl rfl ?_
        refine G.assignB rfl trivial rfl rfl rfl ?_
        refine G.nil ?_
        refine C.condB _ rfl ?_ ?_
        · intro hc3
          refine C.seq ?_
          refine C.region ?_
          refine G.assignI rfl trivial rfl rfl rfl ?_
          refine G.nil ?_
          refine C.less hpack ?_
          refine C.ret ?_
          -- end c1Fx27Tg33Fc3T
          have hno : onL x ls = [] := Classical.not_not.1 hg33
          rw [hno] at hb2
          rcases hb2 with ⟨rfl, _, _⟩ | ⟨_, hr, _⟩
          · cases hc3
          · exact absurd hr (rch_nil _ _)
        · intro hc3
          refine C.seq ?_
          refine C.region ?_
          refine G.moveB rfl trivial rfl rfl rfl ?_
          first | refine G.notD rfl trivial rfl rfl rfl ?_ | refine G.not rfl trivial rfl rfl rfl ?_
          refine G.assignB rfl trivial rfl rfl rfl ?_
          refine G.nil ?_
          refine C.no rfl hg33 ?_
          refine C.skip ?_
          refine C.seq ?_
          refine C.region ?_
          refine G.assignI rfl trivial rfl rfl rfl ?_
          refine G.nil ?_
          refine C.less hpack ?_
          refine C.ret ?_
          -- end c1Fx27Tg33Fc3F
          have hno : onL x ls = [] := Classical.not_not.1 hg33
          rw [hno] at hb2
          rcases hb2 with ⟨rfl, hr, rfl⟩ | ⟨_, hr, _⟩
          · exact ⟨rfl, _, Res.of (rs := [.tmp 8]) rfl rfl, 0, _, _, _, .inr (.inr (.inl ⟨hin, hmo, by rw [hx]; exact hno, rfl, rfl, rfl⟩)), ⟨vi, si, bk, l3, l4, bw, w4, w5, w6, hv, by rw [hx]; exact hk2, hw2, rfl⟩, rfl, rfl⟩
          · exact absurd hr (rch_nil _ _)
    ·
      refine G.call E26 rfl rfl trivial rfl rfl (FnS.read (lock_form W0 bk (l1 :: l2 :: si :: [(bt, .row [vi, .pointer (some ⟨bk, 0, none⟩), .pointer (some ⟨bw, 0, none⟩)] 54 3)] :: w1 :: w2 :: w3 :: L) id mo k hmo) P22) rfl ?_
      rintro e L2 ⟨rfl, rfl⟩
      refine G.moveU rfl trivial rfl rfl rfl ?_
      refine G.extractL rfl trivial rfl rfl rfl rfl ?_
      refine G.extractL rfl trivial rfl rfl rfl rfl ?_
      refine G.assignS rfl trivial rfl rfl rfl ?_
      refine G.assignB rfl trivial rfl rfl rfl ?_
      refine G.nil ?_
      refine C.seq ?_
      refine C.block ?_
      refine C.seq ?_
      refine C.region ?_
      refine G.moveB rfl trivial rfl rfl rfl ?_
      first | refine G.notD rfl trivial rfl rfl rfl ?_ | refine G.not rfl trivial rfl rfl rfl ?_
      refine G.moveB rfl trivial rfl rfl rfl ?_
      refine G.moveS rfl ⟨_, rfl, rfl, rfl⟩ rfl rfl rfl ?_
      refine G.lenSlice rfl ⟨_, rfl, rfl, rfl⟩ rfl rfl Try.underlying27 rfl ?_
      refine G.bin rfl ⟨_, rfl, rfl, rfl⟩ rfl rfl rfl rfl rfl ?_
      first | refine G.pickT rfl trivial rfl rfl rfl rfl ?_ | refine G.pickF rfl trivial rfl rfl rfl rfl ?_
      refine G.assignB rfl trivial rfl rfl rfl ?_
      refine G.nil ?_
      refine C.condT rfl ?_
      refine C.seq ?_
      refine C.region ?_
      refine G.assignI rfl trivial rfl rfl rfl ?_
      refine G.nil ?_
      refine C.less (L' := (si ++ ([(bt, .row [vi, .pointer (some ⟨bk, 0, none⟩), .pointer (some ⟨bw, 0, none⟩)] 54 3)] ++ (l1 ++ (l2 ++ (w1 ++ (w2 ++ w3)))))) :: L) (fun _ h => h.of_flat (by simp)) ?_
      refine C.ret ?_
      -- end c1Fx27F
      exact ⟨rfl, _, Res.of (rs := [.tmp 8]) rfl rfl, 1, ls, g, _, .inr (.inl ⟨hin, hmo, rfl, rfl, rfl⟩), ⟨vi, si, bk, l1, l2, bw, w1, w2, w3, hv, hk, hw.more, rfl⟩, rfl, rfl⟩
theorem tend_spec (L : List Seg) (ids : List Int) (ls : List One) (g : Int → List Int) (N : Nat) (s : Seg) (h : TxIs bt ids ls g N s) (hl : ids.length ≤ 1000) (hls : ls.length ≤ 900) (id : Int) :
    FnS Try.prog W0 15 #[.pointer (some ⟨bt, 0, none⟩), .int .i64 id] (s :: L) (fun e L' => ∃ s', (if id ∈ ids then TxIs bt (without id ids) (others id ls) (clearG g id) N s' else TxIs bt ids ls g N s') ∧ L' = s' :: L ∧ e = .returned (.bool (decide (id ∈ ids)))) := by
  have hs := h
  obtain ⟨vi, si, bk, l1, l2, bw, w1, w2, w3, hv, hk, hw, rfl⟩ := h
  refine FnS.perm (L' := si :: [(bt, .row [vi, .pointer (some ⟨bk, 0, none⟩), .pointer (some ⟨bw, 0, none⟩)] 54 3)] :: l1 :: l2 :: w1 :: w2 :: w3 :: L) ?_ (by simp)
  refine FnS.of (args := [.pointer (some ⟨bt, 0, none⟩), .int .i64 id]) Try.func15 rfl rfl ?_
  refine C.seq ?_
  refine C.region ?_
  refine G.boxI rfl trivial rfl rfl rfl ?_
  intro b3
  refine G.assignB rfl trivial rfl rfl rfl ?_
  refine G.nil ?_
  refine C.seq ?_
  refine C.seq ?_
  refine C.region ?_
  refine G.moveP rfl trivial rfl rfl rfl ?_
  refine G.loadAt (by first | exact .here | exact .next .here | exact .next (.next .here) | exact .next (.next (.next .here)) | exact .next (.next (.next (.next .here))) | exact .next (.next (.next (.next (.next .here)))) | exact .next (.next (.next (.next (.next (.next .here))))) | exact .next (.next (.next (.next (.next (.next (.next .here)))))) | exact .in1 | exact .next .in1 | exact .next (.next .in1) | exact .next (.next (.next .in1)) | exact .next (.next (.next (.next .in1))) | exact .in2 | exact .next .in2 | exact .next (.next .in2) | exact .next (.next (.next .in2)) | exact .next (.next (.next (.next .in2))) | exact .app .here | exact .app (.next .here) | exact .app (.next (.next .here)) | exact .app (.next (.next (.next .here))) | exact .app (.next (.next (.next (.next .here)))) | exact .app (.next (.next (.next (.next (.next .here))))) | exact .app (.next (.next (.next (.next (.next (.next .here)))))) | exact .app (.next (.next (.next (.next (.next (.next (.next .here))))))) | exact .app .in1 | exact .app .in2 | exact .app (.next .in1) | exact .next (.app .in1) | exact .next (.next (.app .in1)) | exact .next (.app .here) | exact .next (.next (.app .here)) | exact .next (.next (.next (.app .here))) | exact .next (.next (.next (.next (.app .here))))) rfl trivial rfl rfl Try.underlying2 rfl rfl (by rfl) ?_
  refine G.call E19 rfl rfl trivial rfl rfl (FnS.read (tis_open W0 bt ([(b3, .row [.int .i64 id] 2 1)] :: l1 :: l2 :: w1 :: w2 :: w3 :: L) vi (.pointer (some ⟨bk, 0, none⟩)) (.pointer (some ⟨bw, 0, none⟩)) ids si hv hl id) (PS [[(b3, .row [.int .i64 id] 2 1)]] [si, [(bt, .row [vi, .pointer (some ⟨bk, 0, none⟩), .pointer (some ⟨bw, 0, none⟩)] 54 3)]] _)) rfl ?_
  rintro e L2 ⟨rfl, rfl⟩
  first | refine G.notD rfl trivial rfl rfl rfl ?_ | refine G.not rfl trivial rfl rfl rfl ?_
  refine G.nil ?_
  refine C.cond _ rfl ?_ ?_
  · intro hc0
    refine C.seq ?_
    refine C.region ?_
    refine G.assignB rfl trivial rfl rfl rfl ?_
    refine G.nil ?_
    refine C.less (L' := (si ++ ([(bt, .row [vi, .pointer (some ⟨bk, 0, none⟩), .pointer (some ⟨bw, 0, none⟩)] 54 3)] ++ (l1 ++ (l2 ++ (w1 ++ (w2 ++ w3)))))) :: L) (fun _ h => h.tail.of_flat (by simp)) ?_
    refine C.ret ?_
    -- end c0T
    exact ⟨rfl, _, Res.of (rs := [.tmp 4]) rfl rfl, _, by rw [if_neg hc0]; exact hs, rfl, by rw [decide_eq_false hc0]; rfl⟩
  · intro hc0
    have hin : id ∈ ids := Classical.not_not.1 hc0
    refine C.skip ?_
    refine C.seq ?_
    refine C.region ?_
    refine G.moveP rfl trivial rfl rfl rfl ?_
    refine G.moveP rfl trivial rfl rfl rfl ?_
    first | refine G.nilCheckP rfl trivial rfl rfl rfl ?_ | refine G.nilCheckF rfl trivial rfl rfl rfl ?_
    refine G.fieldAddr rfl trivial rfl rfl Try.underlying54 rfl I27 rfl rfl ?_
    refine G.loadAt (by first | exact .here | exact .next .here | exact .next (.next .here) | exact .next (.next (.next .here)) | exact .next (.next (.next (.next .here))) | exact .next (.next (.next (.next (.next .here)))) | exact .next (.next (.next (.next (.next (.next .here))))) | exact .next (.next (.next (.next (.next (.next (.next .here)))))) | exact .in1 | exact .next .in1 | exact .next (.next .in1) | exact .next (.next (.next .in1)) | exact .next (.next (.next (.next .in1))) | exact .in2 | exact .next .in2 | exact .next (.next .in2) | exact .next (.next (.next .in2)) | exact .next (.next (.next (.next .in2))) | exact .app .here | exact .app (.next .here) | exact .app (.next (.next .here)) | exact .app (.next (.next (.next .here))) | exact .app (.next (.next (.next (.next .here)))) | exact .app (.next (.next (.next (.next (.next .here))))) | exact .app (.next (.next (.next (.next (.next (.next .here)))))) | exact .app (.next (.next (.next (.next (.next (.next (.next .here))))))) | exact .app .in1 | exact .app .in2 | exact .app (.next .in1) | exact .next (.app .in1) | exact .next (.next (.app .in1)) | exact .next (.app .here) | exact .next (.next (.app .here)) | exact .next (.next (.next (.app .here))) | exact .next (.next (.next (.next (.app .here))))) rfl trivial rfl rfl Try.underlying27 rfl rfl (by rfl) ?_
    refine G.makeFuncL rfl trivial rfl rfl rfl rfl ?_
    refine G.call E30 rfl rfl trivial rfl rfl (FnS.perm (deleteI_spec W0 31 E31 (tend1_spec W0) ([(bt, .row [vi, .pointer (some ⟨bk, 0, none⟩), .pointer (some ⟨bw, 0, none⟩)] 54 3)] :: l1 :: l2 :: w1 :: w2 :: w3 :: L) vi ids si hv (by omega) b3 id) P2) rfl ?_
    rintro e L2 ⟨v15, s15, hv15, rfl, rfl⟩
    obtain ⟨a15, c15, rfl, _⟩ := hv15.form
    first | refine G.nilCheckP rfl trivial rfl rfl rfl ?_ | refine G.nilCheckF rfl trivial rfl rfl rfl ?_
    refine G.fieldAddr rfl trivial rfl rfl Try.underlying54 rfl I27 rfl rfl ?_
    refine G.store (v := .slice _ _ _) (by first | exact .here | exact .next .here | exact .next (.next .here) | exact .next (.next (.next .here)) | exact .next (.next (.next (.next .here))) | exact .next (.next (.next (.next (.next .here)))) | exact .next (.next (.next (.next (.next (.next .here))))) | exact .next (.next (.next (.next (.next (.next (.next .here)))))) | exact .in1 | exact .next .in1 | exact .next (.next .in1) | exact .next (.next (.next .in1)) | exact .next (.next (.next (.next .in1))) | exact .in2 | exact .next .in2 | exact .next (.next .in2) | exact .next (.next (.next .in2)) | exact .next (.next (.next (.next .in2))) | exact .app .here | exact .app (.next .here) | exact .app (.next (.next .here)) | exact .app (.next (.next (.next .here))) | exact .app (.next (.next (.next (.next .here)))) | exact .app (.next (.next (.next (.next (.next .here))))) | exact .app (.next (.next (.next (.next (.next (.next .here)))))) | exact .app (.next (.next (.next (.next (.next (.next (.next .here))))))) | exact .app .in1 | exact .app .in2 | exact .app (.next .in1) | exact .next (.app .in1) | exact .next (.next (.app .in1)) | exact .next (.app .here) | exact .next (.next (.app .here)) | exact .next (.next (.next (.app .here))) | exact .next (.next (.next (.next (.app .here))))) rfl trivial rfl I27 rfl rfl rfl (by first | decide | (simp; done) | (simp; omega)) _ (by first | (simp only [List.set_cons_succ, List.set_cons_zero]; done) | (simp only [List.set_cons_succ, List.set_cons_zero]; exact rfl) | exact rfl) ?_
    refine G.less (L' := s15 :: [(b3, .row [.int .i64 id] 2 1)] :: [(bt, .row [.slice a15 (without id ids).length c15, .pointer (some ⟨bk, 0, none⟩), .pointer (some ⟨bw, 0, none⟩)] 54 3)] :: l1 :: l2 :: w1 :: w2 :: w3 :: L) (fun _ h => h) ?_
    refine G.nil ?_
    refine C.seq ?_
    refine C.drawn mixed (_) [5] (fun _ h => h) ?_
    refine GA.pure (i := 0) (fun _ _ _ _ _ h => h) rfl (by kernel_rfl) trivial rfl rfl (Y.moveP rfl rfl) (#[true, false, false, false, false, false]) (by kernel_rfl) ?_
    first | refine GA.pure (i := 1) (fun _ _ _ _ _ h => h) rfl (by kernel_rfl) trivial rfl rfl (Y.nilCheckP rfl rfl) (#[true, true, false, false, false, false]) (by kernel_rfl) ?_ | refine GA.pure (i := 1) (fun _ _ _ _ _ h => h) rfl (by kernel_rfl) trivial rfl rfl (Y.nilCheckF rfl rfl) (#[true, true, false, false, false, false]) (by kernel_rfl) ?_
    refine GA.pure (i := 2) (fun _ _ _ _ _ h => h) rfl (by kernel_rfl) trivial rfl rfl (Y.fieldAddr rfl Try.underlying54 rfl I49 rfl rfl) (#[true, true, true, false, false, false]) (by kernel_rfl) ?_
    refine GA.read (i := 3) (fun _ _ _ _ _ h => h) rfl (by kernel_rfl) (by kernel_rfl) trivial rfl rfl (Y.loadAt (by first | exact .here | exact .next .here | exact .next (.next .here) | exact .next (.next (.next .here)) | exact .next (.next (.next (.next .here))) | exact .next (.next (.next (.next (.next .here)))) | exact .next (.next (.next (.next (.next (.next .here))))) | exact .next (.next (.next (.next (.next (.next (.next .here)))))) | exact .in1 | exact .next .in1 | exact .next (.next .in1) | exact .next (.next (.next .in1)) | exact .next (.next (.next (.next .in1))) | exact .in2 | exact .next .in2 | exact .next (.next .in2) | exact .next (.next (.next .in2)) | exact .next (.next (.next (.next .in2))) | exact .app .here | exact .app (.next .here) | exact .app (.next (.next .here)) | exact .app (.next (.next (.next .here))) | exact .app (.next (.next (.next (.next .here)))) | exact .app (.next (.next (.next (.next (.next .here))))) | exact .app (.next (.next (.next (.next (.next (.next .here)))))) | exact .app (.next (.next (.next (.next (.next (.next (.next .here))))))) | exact .app .in1 | exact .app .in2 | exact .app (.next .in1) | exact .next (.app .in1) | exact .next (.next (.app .in1)) | exact .next (.app .here) | exact .next (.next (.app .here)) | exact .next (.next (.next (.app .here))) | exact .next (.next (.next (.next (.app .here))))) rfl Try.underlying49 rfl rfl (by rfl)) (#[true, true, true, true, false, false]) (by kernel_rfl) ?_
    refine GA.read (i := 4) (fun _ _ _ _ _ h => h) rfl (by kernel_rfl) (by kernel_rfl) trivial rfl rfl (Y.loadAt (by first | exact .here | exact .next .here | exact .next (.next .here) | exact .next (.next (.next .here)) | exact .next (.next (.next (.next .here))) | exact .next (.next (.next (.next (.next .here)))) | exact .next (.next (.next (.next (.next (.next .here))))) | exact .next (.next (.next (.next (.next (.next (.next .here)))))) | exact .in1 | exact .next .in1 | exact .next (.next .in1) | exact .next (.next (.next .in1)) | exact .next (.next (.next (.next .in1))) | exact .in2 | exact .next .in2 | exact .next (.next .in2) | exact .next (.next (.next .in2)) | exact .next (.next (.next (.next .in2))) | exact .app .here | exact .app (.next .here) | exact .app (.next (.next .here)) | exact .app (.next (.next (.next .here))) | exact .app (.next (.next (.next (.next .here)))) | exact .app (.next (.next (.next (.next (.next .here))))) | exact .app (.next (.next (.next (.next (.next (.next .here)))))) | exact .app (.next (.next (.next (.next (.next (.next (.next .here))))))) | exact .app .in1 | exact .app .in2 | exact .app (.next .in1) | exact .next (.app .in1) | exact .next (.next (.app .in1)) | exact .next (.app .here) | exact .next (.next (.app .here)) | exact .next (.next (.next (.app .here))) | exact .next (.next (.next (.next (.app .here))))) rfl Try.underlying2 rfl rfl (by rfl)) (#[true, true, true, true, true, false]) (by kernel_rfl) ?_
    refine GA.one (i := 5) rfl (by kernel_rfl) (#[true, true, true, true, true, true]) (by kernel_rfl) ?_
    refine G.call E32 rfl rfl trivial rfl rfl (FnS.perm (free_spec W0 (s15 :: [(b3, .row [.int .i64 id] 2 1)] :: [(bt, .row [.slice a15 (without id ids).length c15, .pointer (some ⟨bk, 0, none⟩), .pointer (some ⟨bw, 0, none⟩)] 54 3)] :: w1 :: w2 :: w3 :: L) bk ls l1 l2 hk (by omega) id) (PS [s15, [(b3, .row [.int .i64 id] 2 1)], [(bt, .row [.slice a15 (without id ids).length c15, .pointer (some ⟨bk, 0, none⟩), .pointer (some ⟨bw, 0, none⟩)] 54 3)]] [l1, l2] (w1 :: w2 :: w3 :: L))) rfl ?_
    rintro e L2 ⟨l3, l4, hk2, rfl, rfl⟩
    refine G.nil ?_
    refine ⟨fun _ h => absurd h (by simp [hit]), ?_⟩
    refine GA.done (by kernel_rfl) ?_
    refine C.seq ?_
    refine C.drawn mixed (_) [5] (fun _ h => h) ?_
    refine GA.pure (i := 0) (fun _ _ _ _ _ h => h) rfl (by kernel_rfl) trivial rfl rfl (Y.moveP rfl rfl) (#[true, false, false, false, false, false]) (by kernel_rfl) ?_
    first | refine GA.pure (i := 1) (fun _ _ _ _ _ h => h) rfl (by kernel_rfl) trivial rfl rfl (Y.nilCheckP rfl rfl) (#[true, true, false, false, false, false]) (by kernel_rfl) ?_ | refine GA.pure (i := 1) (fun _ _ _ _ _ h => h) rfl (by kernel_rfl) trivial rfl rfl (Y.nilCheckF rfl rfl) (#[true, true, false, false, false, false]) (by kernel_rfl) ?_
    refine GA.pure (i := 2) (fun _ _ _ _ _ h => h) rfl (by kernel_rfl) trivial rfl rfl (Y.fieldAddr rfl Try.underlying54 rfl I51 rfl rfl) (#[true, true, true, false, false, false]) (by kernel_rfl) ?_
    refine GA.read (i := 3) (fun _ _ _ _ _ h => h) rfl (by kernel_rfl) (by kernel_rfl) trivial rfl rfl (Y.loadAt (by first | exact .here | exact .next .here | exact .next (.next .here) | exact .next (.next (.next .here)) | exact .next (.next (.next (.next .here))) | exact .next (.next (.next (.next (.next .here)))) | exact .next (.next (.next (.next (.next (.next .here))))) | exact .next (.next (.next (.next (.next (.next (.next .here)))))) | exact .in1 | exact .next .in1 | exact .next (.next .in1) | exact .next (.next (.next .in1)) | exact .next (.next (.next (.next .in1))) | exact .in2 | exact .next .in2 | exact .next (.next .in2) | exact .next (.next (.next .in2)) | exact .next (.next (.next (.next .in2))) | exact .app .here | exact .app (.next .here) | exact .app (.next (.next .here)) | exact .app (.next (.next (.next .here))) | exact .app (.next (.next (.next (.next .here)))) | exact .app (.next (.next (.next (.next (.next .here))))) | exact .app (.next (.next (.next (.next (.next (.next .here)))))) | exact .app (.next (.next (.next (.next (.next (.next (.next .here))))))) | exact .app .in1 | exact .app .in2 | exact .app (.next .in1) | exact .next (.app .in1) | exact .next (.next (.app .in1)) | exact .next (.app .here) | exact .next (.next (.app .here)) | exact .next (.next (.next (.app .here))) | exact .next (.next (.next (.next (.app .here))))) rfl Try.underlying51 rfl rfl (by rfl)) (#[true, true, true, true, false, false]) (by kernel_rfl) ?_
    refine GA.read (i := 4) (fun _ _ _ _ _ h => h) rfl (by kernel_rfl) (by kernel_rfl) trivial rfl rfl (Y.loadAt (by first | exact .here | exact .next .here | exact .next (.next .here) | exact .next (.next (.next .here)) | exact .next (.next (.next (.next .here))) | exact .next (.next (.next (.next (.next .here)))) | exact .next (.next (.next (.next (.next (.next .here))))) | exact .next (.next (.next (.next (.next (.next (.next .here)))))) | exact .in1 | exact .next .in1 | exact .next (.next .in1) | exact .next (.next (.next .in1)) | exact .next (.next (.next (.next .in1))) | exact .in2 | exact .next .in2 | exact .next (.next .in2) | exact .next (.next (.next .in2)) | exact .next (.next (.next (.next .in2))) | exact .app .here | exact .app (.next .here) | exact .app (.next (.next .here)) | exact .app (.next (.next (.next .here))) | exact .app (.next (.next (.next (.next .here)))) | exact .app (.next (.next (.next (.next (.next .here))))) | exact .app (.next (.next (.next (.next (.next (.next .here)))))) | exact .app (.next (.next (.next (.next (.next (.next (.next .here))))))) | exact .app .in1 | exact .app .in2 | exact .app (.next .in1) | exact .next (.app .in1) | exact .next (.next (.app .in1)) | exact .next (.app .here) | exact .next (.next (.app .here)) | exact .next (.next (.next (.app .here))) | exact .next (.next (.next (.next (.app .here))))) rfl Try.underlying2 rfl rfl (by rfl)) (#[true, true, true, true, true, false]) (by kernel_rfl) ?_
    refine GA.one (i := 5) rfl (by kernel_rfl) (#[true, true, true, true, true, true]) (by kernel_rfl) ?_
    refine G.call E33 rfl rfl trivial rfl rfl (FnS.perm (clear_spec W0 (l3 :: l4 :: s15 :: [(b3, .row [.int .i64 id] 2 1)] :: [(bt, .row [.slice a15 (without id ids).length c15, .pointer (some ⟨bk, 0, none⟩), .pointer (some ⟨bw, 0, none⟩)] 54 3)] :: L) bw g N w1 w2 w3 hw id) (PS [l3, l4, s15, [(b3, .row [.int .i64 id] 2 1)], [(bt, .row [.slice a15 (without id ids).length c15, .pointer (some ⟨bk, 0, none⟩), .pointer (some ⟨bw, 0, none⟩)] 54 3)]] [w1, w2, w3] L)) rfl ?_
    rintro e L2 ⟨w4, w5, w6, hw2, rfl, rfl⟩
    refine G.nil ?_
    refine ⟨fun _ h => absurd h (by simp [hit]), ?_⟩
    refine GA.done (by kernel_rfl) ?_
    refine C.seq ?_
    refine C.region ?_
    refine G.assignB rfl trivial rfl rfl rfl ?_
    refine G.nil ?_
    refine C.less (L' := (s15 ++ ([(bt, .row [.slice a15 (without id ids).length c15, .pointer (some ⟨bk, 0, none⟩), .pointer (some ⟨bw, 0, none⟩)] 54 3)] ++ (l3 ++ (l4 ++ (w4 ++ (w5 ++ w6)))))) :: L) (fun _ h => (((h.of_flat (PS [w4, w5, w6] [l3, l4] _)).of_flat (PS [l3, l4, w4, w5, w6] [s15, [(b3, .row [.int .i64 id] 2 1)], [(bt, .row [.slice a15 (without id ids).length c15, .pointer (some ⟨bk, 0, none⟩), .pointer (some ⟨bw, 0, none⟩)] 54 3)]] L)).skip1).of_flat (by simp)) ?_
    refine C.ret ?_
    -- end c0F
    exact ⟨rfl, _, Res.of (rs := [.tmp 4]) rfl rfl, _, by rw [if_pos hin]; exact ⟨_, s15, bk, l3, l4, bw, w4, w5, w6, hv15, hk2, hw2, rfl⟩, rfl, by rw [decide_eq_true hin]; rfl⟩
end txn
end Go.Proofs.Ytomiidlbfcfpiaa
