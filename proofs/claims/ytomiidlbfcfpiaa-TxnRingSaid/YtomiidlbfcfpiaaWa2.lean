/-
  Waits: New, Round, On walked.
-/
import Derived.Test.YtomiidlbfcfpiaaWa1
namespace Go.Proofs.Ytomiidlbfcfpiaa
open Go Go.SL Go.RowKit Go.Sort

/-- waits: the struct, the map, the rows; g: for whom each waits -/
def WtIs (bw : Nat) (g : Int → List Int) (N : Nat) (s1 s2 s3 : Seg) : Prop := ∃ bm en ck, s1 = [(bw, .row [.map (some bm)] 70 1)] ∧ s2 = [(bm, mapO .i64 (wes en) ck)] ∧ s3 = pool en ∧ Wok en ck ∧ (∀ k, gr en k = g k) ∧ en.length ≤ N ∧ ∀ e ∈ en, e.2.1.length ≤ 1000
theorem todoW_le : ∀ (en : List Went), (∀ e ∈ en, e.2.1.length ≤ 1000) → todoW [] en ≤ en.length * 1000
  | [], _ => by simp [todoW]
  | e :: en, h => by
    have h1 := h e (by simp)
    have h2 := todoW_le en fun x hx => h x (by simp [hx])
    rw [todoW_cons, List.length_cons, Nat.succ_mul, if_neg (by simp)]
    omega
/-- a row that stands in the pool, as the map tells of it -/
theorem wt_val {en : List Went} {ck : Nat} (hw : Wok en ck) (k : Int) : ∃ a c, (mget (wes en) k).getD (.slice none 0 0) = .slice a (gr en k).length c ∧ ∀ W0 L, Rd W0 (pool en :: L) a ((gr en k).map (Value.int .i64)) := by
  rcases mget_wes hw.keys k with ⟨h1, _, h3⟩ | ⟨e, he, _, h2, h3⟩
  · rw [h1, h3]
    exact ⟨none, 0, rfl, fun _ _ => Rd.nil⟩
  · rw [h2, h3]
    exact ⟨some ⟨e.2.2.2.1, 0, none⟩, e.2.2.2.2.1, rfl, fun W0 L => (at_pool he L).elim fun u hu => Rd.row0 hu⟩
section wait
variable (W0 : World)
theorem wnew_spec (L : List Seg) : FnS Try.prog W0 22 #[] L (fun e L' => ∃ bw s1 s2 s3, WtIs bw (fun _ => []) 0 s1 s2 s3 ∧ L' = s1 :: s2 :: s3 :: L ∧ e = .returned (.pointer (some ⟨bw, 0, none⟩))) := by
  refine FnS.of (args := []) Try.func22 rfl rfl ?_
  refine C.seq ?_
  refine C.region ?_
  refine G.assignP rfl trivial rfl rfl rfl ?_
  refine G.nil ?_
  refine C.seq ?_
  refine C.region ?_
  refine G.makeMap (kd := .i64) rfl trivial rfl rfl ?_
  intro b1
  refine G.buildL (cs := [.map (some b1)]) rfl trivial rfl rfl Try.underlying70 I70 B70 rfl rfl ?_
  refine G.boxG rfl trivial rfl rfl rfl ?_
  intro b3
  refine G.assignP rfl trivial rfl rfl rfl ?_
  refine G.nil ?_
  refine C.less (L' := [(b3, .row [.map (some b1)] 70 1)] :: [(b1, mapO .i64 [] 0)] :: [] :: L) (fun _ h => h.of_flat (by simp)) ?_
  refine C.ret ?_
  -- end 
  exact ⟨rfl, _, Res.of (rs := [.tmp 0]) rfl rfl, b3, _, _, _, ⟨b1, [], 0, rfl, rfl, rfl, ⟨by simp, by simp, by simp, by simp⟩, fun _ => rfl, by simp, by simp⟩, rfl, rfl⟩
theorem clear1_spec : Strikes W0 52 := by
  intro L bt t y u ha
  refine FnS.of (args := [.int .i64 y, .pointer (some ⟨bt, 0, none⟩)]) Try.func52 rfl rfl ?_
  refine C.seq ?_
  refine C.region ?_
  refine G.assignB rfl trivial rfl rfl rfl ?_
  refine G.nil ?_
  refine C.seq ?_
  refine C.region ?_
  refine G.moveI rfl trivial rfl rfl rfl ?_
  refine G.loadAt ha rfl trivial rfl rfl Try.underlying2 rfl rfl rfl ?_
  refine G.bin rfl trivial rfl rfl rfl rfl rfl ?_
  refine G.assignB rfl trivial rfl rfl rfl ?_
  refine G.nil ?_
  refine C.ret ?_
  -- end 
  exact ⟨rfl, _, Res.of (rs := [.tmp 3]) rfl rfl, rfl, rfl⟩
theorem round_nil (L : List Seg) (t : Int) (v : Value) : FnS Try.prog W0 44 #[.pointer none, .int .i64 t, v] L (fun e L' => L' = L ∧ e = .returned (.bool false)) := by
  refine FnS.of (args := [.pointer none, .int .i64 t, v]) Try.func44 rfl rfl ?_
  refine C.seq ?_
  refine C.region ?_
  refine G.assignB rfl trivial rfl rfl rfl ?_
  refine G.nil ?_
  refine C.seq ?_
  refine C.seq ?_
  refine C.region ?_
  refine G.moveP rfl trivial rfl rfl rfl ?_
  refine G.ptrEq rfl trivial rfl rfl Try.underlying51 rfl rfl ?_
  refine G.nil ?_
  refine C.condT rfl ?_
  refine C.seq ?_
  refine C.region ?_
  refine G.assignB rfl trivial rfl rfl rfl ?_
  refine G.nil ?_
  refine C.ret ?_
  -- end 
  exact ⟨rfl, _, Res.of (rs := [.tmp 6]) rfl rfl, rfl, rfl⟩
variable (L0 : List Seg) (bw : Nat)
theorem round_spec (g : Int → List Int) (N : Nat) (s1 s2 s3 : Seg) (h : WtIs bw g N s1 s2 s3) (hN : N ≤ 1000) (t : Int) (a : Option Addr) (c : Nat) (xs : List Int) (hxs : xs.length ≤ 100000) (hr : Rd W0 (s1 :: s2 :: s3 :: L0) a (xs.map (Value.int .i64))) :
    FnS Try.prog W0 44 #[.pointer (some ⟨bw, 0, none⟩), .int .i64 t, .slice a xs.length c] (s1 :: s2 :: s3 :: L0) (fun e L' => L' = s1 :: s2 :: s3 :: L0 ∧ ∃ b : Bool, (b = true ↔ Rch g xs t) ∧ e = .returned (.bool b)) := by
  obtain ⟨bm, en, ck, rfl, rfl, rfl, hw, hg, hen, hlen⟩ := h
  obtain rfl : gr en = g := funext hg
  have htl := todoW_le en hlen
  refine FnS.of (args := [.pointer (some ⟨bw, 0, none⟩), .int .i64 t, .slice a xs.length c]) Try.func44 rfl rfl ?_
  refine C.seq ?_
  refine C.region ?_
  refine G.assignB rfl trivial rfl rfl rfl ?_
  refine G.nil ?_
  refine C.seq ?_
  refine C.seq ?_
  refine C.region ?_
  refine G.moveP rfl trivial rfl rfl rfl ?_
  refine G.ptrEq rfl trivial rfl rfl Try.underlying51 rfl rfl ?_
  refine G.nil ?_
  refine C.condF rfl ?_
  refine C.skip ?_
  refine C.seq ?_
  refine C.region ?_
  refine G.makeMap (kd := .i64) rfl trivial rfl rfl ?_
  intro bs
  first | refine G.assignM rfl trivial rfl rfl rfl ?_ | refine G.assign _ rfl trivial rfl rfl rfl ?_
  refine G.nil ?_
  refine C.seq ?_
  refine C.region ?_
  refine G.moveS rfl trivial rfl rfl rfl ?_
  refine G.call E36 rfl rfl trivial rfl rfl (clone_spec W0 _ a c xs hr.cons (by omega)) rfl ?_
  rintro e L2 ⟨v14, s14, hv14, rfl, rfl⟩
  obtain ⟨a14, c14, rfl, _⟩ := hv14.form
  refine G.assignS rfl trivial rfl rfl rfl ?_
  refine G.nil ?_
  refine C.seq ?_
  refine C.block ?_
  refine C.loop (fun m F D' L' => ∃ (td sl : List Int) (ao : Option Addr) (co : Nat) (so : Seg) (es : Ent) (cs : Nat), m = td.length + todoW sl en + 0 ∧ td.length + todoW sl en ≤ 1200000 ∧ OwnS (.slice ao td.length co) td.length (td.map (Value.int .i64)) 2 1 so ∧ (∀ x, mget es x = if x ∈ sl then some (.bool true) else none) ∧ (∀ y ∈ td, Rch (gr en) xs y) ∧ (∀ y ∈ xs, y ∈ sl ∨ y ∈ td) ∧ (∀ x ∈ sl, ∀ y ∈ gr en x, y ∈ sl ∨ y ∈ td) ∧ t ∉ sl ∧ F 0 = .pointer (some ⟨bw, 0, none⟩) ∧ F 1 = .int .i64 t ∧ F 7 = .map (some bs) ∧ F 8 = .slice ao td.length co ∧ D' = [] ∧ so :: [(bs, mapO .i64 es cs)] :: [(bw, .row [.map (some bm)] 70 1)] :: [(bm, mapO .i64 (wes en) ck)] :: pool en :: L0 = L') ⟨_, ⟨xs, [], a14, c14, s14, [], 0, rfl, by omega, hv14, fun x => by simp [mget_nil], fun y hy => .base hy, fun y hy => .inr hy, fun x hx => absurd hx (by simp), by simp, rfl, rfl, rfl, rfl, rfl, rfl⟩⟩ ?_
  rintro m F D' L' ⟨td, sl, ao, co, so, es, cs, rfl, hm0, hon, hmg, hi1, hi2, hi3, hi4, h0, h1, h7, h8, rfl, rfl⟩
  refine C.fix (d := 0) h0 ?_
  refine C.fix (d := 1) h1 ?_
  refine C.fix (d := 7) h7 ?_
  refine C.fix (d := 8) h8 ?_
  refine C.seq ?_
  refine C.seq ?_
  refine C.region ?_
  refine G.moveS rfl trivial rfl rfl rfl ?_
  refine G.lenSlice rfl trivial rfl rfl Try.underlying27 rfl ?_
  refine G.bin rfl trivial rfl rfl rfl rfl rfl ?_
  refine G.nil ?_
  refine C.cond _ rfl ?_ ?_
  · intro hc1
    have htd : td ≠ [] := by intro h; rw [h] at hc1; exact absurd hc1 (by decide)
    obtain ⟨td1, x, rfl⟩ : ∃ td1 x, td = td1 ++ [x] := ⟨td.dropLast, td.getLast htd, (List.dropLast_concat_getLast htd).symm⟩
    obtain ⟨bo, cc, ko, hoe, rfl, ho1, ho2⟩ := hon.block (by omega)
    cases hoe
    have hll : (td1 ++ [x]).length = td1.length + 1 := by simp
    have hxr : Rch (gr en) xs x := hi1 x (by simp)
    refine C.skip ?_
    refine C.block ?_
    refine C.seq ?_
    refine C.region ?_
    refine G.moveS rfl trivial rfl rfl rfl ?_
    refine G.moveS rfl trivial rfl rfl rfl ?_
    refine G.lenSlice rfl trivial rfl rfl Try.underlying27 rfl ?_
    refine G.subN (j := 1) rfl trivial rfl rfl rfl rfl (by omega) ?_
    refine G.idxN rfl trivial rfl rfl Try.underlying27 I2 rfl rfl (by omega) ?_
    refine G.loadAt (v := .int .i64 x) .here rfl trivial rfl rfl Try.underlying2 rfl rfl (by rw [hll]; simp) ?_
    refine G.assignI rfl trivial rfl rfl rfl ?_
    refine G.nil ?_
    refine C.seq ?_
    refine C.region ?_
    refine G.moveS rfl trivial rfl rfl rfl ?_
    refine G.moveS rfl trivial rfl rfl rfl ?_
    refine G.lenSlice rfl trivial rfl rfl Try.underlying27 rfl ?_
    refine G.subN (j := 1) rfl trivial rfl rfl rfl rfl (by omega) ?_
    refine G.sliceH rfl trivial rfl rfl Try.underlying27 I2 rfl rfl (by omega) ?_
    refine G.fix (d := 28) (v := .slice (some ⟨bo, 0, none⟩) td1.length co) (by show Value.slice _ (((td1 ++ [x]).length - 1 : Nat) : Int).toNat co = _; rw [hll]; simp) ?_
    refine G.assignS rfl trivial rfl rfl rfl ?_
    refine G.less (L' := [(bo, .row (td1.map (Value.int .i64)) 2 ko)] :: [(bs, mapO .i64 es cs)] :: [(bw, .row [.map (some bm)] 70 1)] :: [(bm, mapO .i64 (wes en) ck)] :: pool en :: L0) (fun _ h => by have h2 := h.forget .here td1.length; simpa using h2) ?_
    refine G.nil ?_
    refine C.seq ?_
    refine C.seq ?_
    refine C.region ?_
    refine G.moveI rfl trivial rfl rfl rfl ?_
    refine G.moveI rfl trivial rfl rfl rfl ?_
    refine G.bin rfl trivial rfl rfl rfl rfl rfl ?_
    refine G.nil ?_
    refine C.cond _ rfl ?_ ?_
    · intro hc2
      refine C.seq ?_
      refine C.region ?_
      refine G.assignB rfl trivial rfl rfl rfl ?_
      refine G.nil ?_
      refine C.less (fun _ h => h.tail.tail) ?_
      refine C.ret ?_
      -- end c1Tc2T
      exact ⟨rfl, _, Res.of (rs := [.tmp 6]) rfl rfl, rfl, true, ⟨fun _ => by rw [← hc2]; exact hxr, fun _ => rfl⟩, rfl⟩
    · intro hc2
      refine C.skip ?_
      refine C.seq ?_
      refine C.region ?_
      first | refine G.moveM rfl trivial rfl rfl rfl ?_ | refine G.move _ rfl trivial rfl rfl rfl ?_
      refine G.moveI rfl trivial rfl rfl rfl ?_
      refine G.lookupV (.next .here) rfl trivial rfl rfl Try.underlying106 Try.underlying2 I4 rfl rfl ?_
      refine G.fix (d := 34) (v := .bool (decide (x ∈ sl))) (by show (mget es x).getD (.bool false) = _; rw [hmg]; by_cases hx : x ∈ sl <;> simp [hx]) ?_
      first | refine G.notD rfl trivial rfl rfl rfl ?_ | refine G.not rfl trivial rfl rfl rfl ?_
      refine G.nil ?_
      refine C.cond _ rfl ?_ ?_
      · intro hc3
        refine C.seq ?_
        refine C.region ?_
        first | refine G.moveM rfl trivial rfl rfl rfl ?_ | refine G.move _ rfl trivial rfl rfl rfl ?_
        refine G.moveI rfl trivial rfl rfl rfl ?_
        refine G.mapUpdate (v := .bool true) (.next .here) rfl trivial rfl Try.underlying106 Try.underlying2 rfl rfl rfl ?_
        refine G.nil ?_
        refine C.region ?_
        refine G.moveS rfl trivial rfl rfl rfl ?_
        refine G.moveP rfl trivial rfl rfl rfl ?_
        first | refine G.nilCheckP rfl trivial rfl rfl rfl ?_ | refine G.nilCheckF rfl trivial rfl rfl rfl ?_
        refine G.fieldAddr rfl trivial rfl rfl Try.underlying70 rfl I68 rfl rfl ?_
        refine G.loadAt (by first | exact .here | exact .next .here | exact .next (.next .here) | exact .next (.next (.next .here)) | exact .next (.next (.next (.next .here))) | exact .next (.next (.next (.next (.next .here)))) | exact .next (.next (.next (.next (.next (.next .here))))) | exact .next (.next (.next (.next (.next (.next (.next .here)))))) | exact .in1 | exact .next .in1 | exact .next (.next .in1) | exact .next (.next (.next .in1)) | exact .next (.next (.next (.next .in1))) | exact .in2 | exact .next .in2 | exact .next (.next .in2) | exact .next (.next (.next .in2)) | exact .next (.next (.next (.next .in2))) | exact .app .here | exact .app (.next .here) | exact .app (.next (.next .here)) | exact .app (.next (.next (.next .here))) | exact .app (.next (.next (.next (.next .here)))) | exact .app (.next (.next (.next (.next (.next .here))))) | exact .app (.next (.next (.next (.next (.next (.next .here)))))) | exact .app (.next (.next (.next (.next (.next (.next (.next .here))))))) | exact .app .in1 | exact .app .in2 | exact .app (.next .in1) | exact .next (.app .in1) | exact .next (.next (.app .in1)) | exact .next (.app .here) | exact .next (.next (.app .here)) | exact .next (.next (.next (.app .here))) | exact .next (.next (.next (.next (.app .here))))) rfl trivial rfl rfl Try.underlying68 rfl rfl (by rfl) ?_
        refine G.moveI rfl trivial rfl rfl rfl ?_
        obtain ⟨a3, c3, hval, hrd⟩ := wt_val hw x
        refine G.lookupV (.next (.next (.next .here))) rfl trivial rfl rfl Try.underlying68 Try.underlying2 I27 rfl rfl ?_
        refine G.fix (d := 44) (v := .slice a3 (gr en x).length c3) hval ?_
        have hstep := todoW_step (sl := sl) hc3 hw.keys
        refine G.append (OwnS.mk (c := co) (k := ko) (by simp) ho1 (by omega)) rfl trivial rfl rfl Try.underlying27 Try.underlying27 I2 rfl (by decide) rfl rfl (by decide) (hrd W0 L0).cons.cons.cons.cons (by simp) (ints_ok _) (by omega) ?_
        intro v45 s45 hv45
        obtain ⟨a45, c45, rfl, _⟩ := hv45.form
        refine G.assignS rfl trivial rfl rfl rfl ?_
        refine G.nil ?_
        refine ⟨td1.length + todoW sl en + 0, by omega, td1 ++ gr en x, x :: sl, a45, c45, s45, _, _, by rw [List.length_append]; omega, by rw [List.length_append]; omega, by rw [List.length_append, List.map_append]; exact hv45, fun y => ?_, fun y hy => ?_, fun y hy => ?_, fun z hz y hy => ?_, ?_, rfl, rfl, rfl, by show Value.slice a45 (td1.length + (gr en x).length) c45 = _; rw [List.length_append], rfl, rfl⟩
        · rw [mget_mput, hmg]
          by_cases e1 : y = x <;> simp [e1]
        · rcases List.mem_append.1 hy with h | h
          · exact hi1 y (by simp [h])
          · exact .step hxr h
        · rcases hi2 y hy with h | h
          · simp [h]
          · simp at h; rcases h with h | h <;> simp [h]
        · rcases List.mem_cons.1 hz with rfl | hz
          · simp [hy]
          · rcases hi3 z hz y hy with h | h
            · simp [h]
            · simp at h; rcases h with h | h <;> simp [h]
        · simp only [List.mem_cons, not_or]; exact ⟨fun h => hc2 h.symm, hi4⟩
      · intro hc3
        refine C.skip ?_
        have hxs2 : x ∈ sl := Classical.not_not.1 hc3
        refine ⟨td1.length + todoW sl en + 0, by omega, td1, sl, _, co, _, es, cs, rfl, by omega, OwnS.mk (k := ko) (by simp) ho1 (by omega), hmg, fun y hy => hi1 y (by simp [hy]), fun y hy => ?_, fun z hz y hy => ?_, hi4, rfl, rfl, rfl, rfl, rfl, rfl⟩
        · rcases hi2 y hy with h | h
          · exact .inl h
          · simp at h; rcases h with h | h
            · exact .inr h
            · rw [h]; exact .inl hxs2
        · rcases hi3 z hz y hy with h | h
          · exact .inl h
          · simp at h; rcases h with h | h
            · exact .inr h
            · rw [h]; exact .inl hxs2
  · intro hc1
    refine C.exit ?_
    refine C.seq ?_
    refine C.region ?_
    refine G.assignB rfl trivial rfl rfl rfl ?_
    refine G.nil ?_
    refine C.less (fun _ h => h.tail.tail) ?_
    refine C.ret ?_
    -- end c1F
    obtain rfl : td = [] := List.eq_nil_of_length_eq_zero (by omega)
    exact ⟨rfl, _, Res.of (rs := [.tmp 6]) rfl rfl, rfl, false, ⟨fun h => absurd h (by decide), fun h => absurd (h.closed (fun y hy => (hi2 y hy).resolve_right (by simp)) (fun x hx y hy => (hi3 x hx y hy).resolve_right (by simp))) hi4⟩, rfl⟩
end wait
end Go.Proofs.Ytomiidlbfcfpiaa
