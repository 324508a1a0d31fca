/-
  Sheets: Changes walked; Must walked.
-/
import Derived.Test.YtgfdghhojnmaoaaSh1
import Derived.Test.YtgfdghhojnmaoaaKs0
namespace Go.Proofs.Ytgfdghhojnmaoaa
namespace Sht
open Go Go.SL Go.RowKit

theorem Y.lookupV {P : Program} {W0 : World} {F : Nat → Value} {L : List Seg} {o : Oper} {t kt et : TypeId} {kd : IntKind} {x y : Operand} {sz by_ : Nat} {z : Value} {b ck : Nat} {es : Ent} {k0 : Int} {u : Nat → SObj → List Seg} (ha : At L b (mapO kd es ck) u) (ho : o.op = .lookup t x y false)
    (hu : P.underlying t = some (.map kt et)) (hk : P.underlying kt = some (.int kd)) (hi : Inf P et sz by_ z) (hx : ev F x = .map (some b)) (hy : ev F y = .int kd k0) {v : Value} (hv : (mget es k0).getD z = v) : ∀ w, Mem W0 w L → (execOp (ev F) o).run P w = .ok (.value v) w := fun w hm => by
  have := run_lookup_int (k0 := k0) hu hk hi (hm.get ha).2 false
  simp [execOp, ho, hx, hy, this, hv]
theorem _root_.Go.SL.Mem.intoEnd2 {W0 w : World} {a : Seg} {x : Nat × SObj} {s : Seg} {L : List Seg} (h : Mem W0 w (a :: [x] :: s :: L)) : Mem W0 w (a :: (s ++ [x]) :: L) := h.of_flat (by
  simp only [List.flatten_cons, List.append_assoc, List.cons_append, List.nil_append]
  exact List.Perm.append_left a (List.perm_middle (l₁ := s) (a := x) (l₂ := L.flatten)).symm)
theorem Below1.errs {W0 : World} {pv : Value} {S : Seg} {R : Ans} (h : Below1 W0 pv S R) (no c : Int) (hR : R no = .error c) : c ≠ 0 := by
  cases h with
  | none => cases hR; decide
  | some hs => exact hs.errs no c hR
theorem map_at {l : List Int} {i : Nat} (h : i < l.length) : (l.map (Value.int .i64))[i]? = some (.int .i64 l[i]!) := by simp [h]
/-- one image: its number, its bytes' block, room, cells, bytes -/
abbrev Im := Int × Nat × Nat × Nat × List UInt8
def imC (e : Im) : List Value := [.int .i64 e.1, .slice (some ⟨e.2.1, 0, none⟩) e.2.2.2.2.length e.2.2.1]
theorem imC_ok (o : Im) : ∀ v ∈ imC o, cellsOk v = true := by
  intro v hv
  simp only [imC, List.mem_cons, List.not_mem_nil, or_false] at hv
  rcases hv with rfl | rfl <;> rfl
def imB (e : Im) : Nat × SObj := (e.2.1, .row (bytesV e.2.2.2.2) 5 e.2.2.2.1)
def imP (e : Im) : Int × List UInt8 := (e.1, e.2.2.2.2)
/-- images of one's own: the row, and their bytes -/
def ImsIs (v : Value) (l : List (Int × List UInt8)) (s1 s2 : Seg) : Prop := ∃ ims : List Im, ims.map imP = l ∧ (∀ e ∈ ims, e.2.2.2.2.length ≤ e.2.2.1 ∧ e.2.2.1 ≤ e.2.2.2.1) ∧ OwnS v ims.length (ims.flatMap imC) 40 2 s1 ∧ s2 = ims.map imB
def ansIs (a : Except Int (List UInt8)) (b : List UInt8) : Bool := match a with | .ok x => decide (x = b) | .error _ => false
def chg1 (mg : Int → Option (List UInt8)) (R : Ans) (no : Int) : Option (Int × List UInt8) := match mg no with | none => none | some b => if ansIs (R no) b then none else some (no, b)
def chg (mg : Int → Option (List UInt8)) (R : Ans) (ks : List Int) : List (Int × List UInt8) := ks.filterMap (chg1 mg R)
theorem chg_take (mg : Int → Option (List UInt8)) (R : Ans) {ks : List Int} {i : Nat} (h : i < ks.length) : chg mg R (ks.take (i + 1)) = chg mg R (ks.take i) ++ (chg1 mg R ks[i]!).toList := by
  unfold chg
  rw [List.take_succ_eq_append_getElem h, List.filterMap_append]
  congr 1
  simp only [List.filterMap_cons, List.filterMap_nil, getElem!_pos, h]
  cases chg1 mg R ks[i] <;> rfl
theorem chg_le (mg : Int → Option (List UInt8)) (R : Ans) (ks : List Int) : (chg mg R ks).length ≤ ks.length := List.length_filterMap_le _ _
theorem sortZ_length (l : List Int) : (sortZ l).length = l.length := List.length_mergeSort _
theorem sortZ_mem (l : List Int) (a : Int) : a ∈ sortZ l ↔ a ∈ l := (List.mergeSort_perm l _).mem_iff
theorem MapIs.key {es : Ent} {ck : Nat} {mg : Int → Option (List UInt8)} (h : MapIs es ck mg) {k : Int} (hk : k ∈ es.map (·.1)) : ∃ b, mg k = some b ∧ b.length = 256 ∧ 0 ≤ k ∧ k ≤ 95 := by
  obtain ⟨e, he, rfl⟩ := List.mem_map.1 hk
  have h1 : mget es e.1 ≠ none := by
    intro h0
    have key : ∀ (es : Ent), e ∈ es → mget es e.1 ≠ none := by
      intro es
      induction es with
      | nil => intro h; cases h
      | cons x xs ih =>
        intro hm
        rw [mget_cons]
        split
        · simp
        · rename_i hx
          rcases List.mem_cons.1 hm with rfl | hm
          · exact absurd rfl hx
          · exact ih hm
    exact key es he h0
  rw [h.val] at h1
  cases hb : mg e.1 with
  | none => rw [hb] at h1; exact absurd rfl h1
  | some b => exact ⟨b, rfl, h.size _ _ hb, h.rng _ (by rw [hb]; simp)⟩
theorem mget_mem2 {es : Ent} (hn : (es.map (·.1)).Nodup) {e : Int × Value × Nat} (he : e ∈ es) : mget es e.1 = some e.2.1 := by
  induction es with
  | nil => cases he
  | cons x xs ih =>
    have hn' : x.1 ∉ xs.map (·.1) ∧ (xs.map (·.1)).Nodup := List.nodup_cons.1 hn
    rw [mget_cons]
    rcases List.mem_cons.1 he with rfl | he
    · simp
    · rw [if_neg (fun h => hn'.1 (by rw [← h]; exact List.mem_map_of_mem he)), ih hn'.2 he]
theorem nodup_rng : ∀ (n : Nat) (l : List Int), l.Nodup → (∀ k ∈ l, 0 ≤ k ∧ k < (n : Int)) → l.length ≤ n
  | 0, [], _, _ => Nat.le_refl _
  | 0, x :: _, _, h => by have := h x (by simp); omega
  | n + 1, l, hn, h => by
    have h1 : (l.filter fun k => !decide (k = (n : Int))).length ≤ n := nodup_rng n _ (hn.filter _) fun k hk => by
      have h2 := List.mem_filter.1 hk
      have h3 := h k h2.1
      have h4 : ¬ k = (n : Int) := by simpa using h2.2
      omega
    have h5 : l.length ≤ (l.filter fun k => !decide (k = (n : Int))).length + 1 := by
      clear h1 h
      induction l with
      | nil => simp
      | cons x xs ih =>
        have hn' := List.nodup_cons.1 hn
        by_cases hx : x = (n : Int)
        · rw [List.filter_cons_of_neg (by simp [hx]), List.filter_eq_self.2]
          · simp
          · intro y hy
            have : y ≠ (n : Int) := fun e => hn'.1 (by rw [hx, ← e]; exact hy)
            simp [this]
        · rw [List.filter_cons_of_pos (by simp [hx])]
          have := ih hn'.2
          simp only [List.length_cons]; omega
    omega
theorem MapIs.few {es : Ent} {ck : Nat} {mg : Int → Option (List UInt8)} (h : MapIs es ck mg) : es.length ≤ 96 := by
  have := nodup_rng 96 (es.map (·.1)) h.keys fun k hk => by obtain ⟨b, _, _, h1, h2⟩ := h.key hk; omega
  simpa using this
section sheet
variable (W0 : World) (bs : Nat)
theorem schanges_nil (L : List Seg) : FnS Try.prog W0 16 #[.pointer none] L (fun e L' => L' = L ∧ e = .returned nilS) := by
  refine FnS.of (args := [.pointer none]) Try.func16 rfl rfl ?_
  refine C.seq ?_
  refine C.region ?_
  refine G.assignS rfl trivial rfl rfl rfl ?_
  refine G.nil ?_
  refine C.seq ?_
  refine C.seq ?_
  refine C.region ?_
  refine G.moveP rfl trivial rfl rfl rfl ?_
  refine G.ptrEq rfl trivial rfl rfl Try.underlying30 rfl rfl ?_
  refine G.nil ?_
  refine C.condT rfl ?_
  refine C.seq ?_
  refine C.region ?_
  refine G.assignS rfl trivial rfl rfl rfl ?_
  refine G.nil ?_
  refine C.ret ?_
  -- end 
  exact ⟨rfl, _, Res.of (rs := [.tmp 2]) rfl rfl, rfl, rfl⟩
theorem schanges_open (L : List Seg) (bm : Nat) (pv : Value) (es : Ent) (ck : Nat) (S : Seg) (R : Ans) (mg : Int → Option (List UInt8)) (hm : MapIs es ck mg) (h : Below1 W0 pv S R) :
    FnS Try.prog W0 16 #[ptr bs] (shS bs bm pv :: [(bm, mapO .i64 es ck)] :: S :: L) (fun e L' => ∃ a c s1 s2 j1 j2, ImsIs (.slice a (chg mg R (sortZ (es.map (·.1)))).length c) (chg mg R (sortZ (es.map (·.1)))) s1 s2 ∧ L' = s1 :: s2 :: j1 :: j2 :: shS bs bm pv :: [(bm, mapO .i64 es ck)] :: S :: L ∧ e = .returned (.slice a (chg mg R (sortZ (es.map (·.1)))).length c)) := by
  have hval : ∀ e ∈ es, (Lit.int .i64 e.1).wf = true ∧ ∃ s, e.2.1 = .string s ∧ s.size ≤ maxLen := fun e he => by
    obtain ⟨b, hb, hl, h1, h2⟩ := hm.key (List.mem_map_of_mem (f := (·.1)) he)
    refine ⟨by simp [Lit.wf, IntKind.min, IntKind.max, IntKind.signed, IntKind.bits]; omega, strB b, ?_, by rw [strB_size, hl]; unfold maxLen; omega⟩
    have h3 := mget_mem2 hm.keys he
    rw [hm.val, hb] at h3
    exact (Option.some.inj h3).symm
  have hfew := hm.few
  have hks : ∀ k ∈ sortZ (es.map (·.1)), ∃ b, mg k = some b ∧ b.length = 256 ∧ 0 ≤ k ∧ k ≤ 95 := fun k hk => hm.key ((sortZ_mem _ _).1 hk)
  have hkl : (sortZ (es.map (·.1))).length ≤ 96 := by rw [sortZ_length]; simpa using hfew
  refine FnS.of (args := [ptr bs]) Try.func16 rfl rfl ?_
  refine C.seq ?_
  refine C.region ?_
  refine G.assignS rfl trivial rfl rfl rfl ?_
  refine G.nil ?_
  refine C.seq ?_
  refine C.seq ?_
  refine C.region ?_
  refine G.moveP rfl trivial rfl rfl rfl ?_
  refine G.ptrEq rfl trivial rfl rfl Try.underlying30 rfl rfl ?_
  refine G.nil ?_
  refine C.condF rfl ?_
  refine C.skip ?_
  refine C.seq ?_
  refine C.region ?_
  refine G.assignS rfl trivial rfl rfl rfl ?_
  refine G.nil ?_
  refine C.seq ?_
  refine C.seq ?_
  refine C.region ?_
  refine G.moveP rfl trivial rfl rfl rfl ?_
  first | refine G.nilCheckP rfl trivial rfl rfl rfl ?_ | refine G.nilCheckF rfl trivial rfl rfl rfl ?_
  refine G.fieldAddr rfl trivial rfl rfl Try.underlying58 rfl I56 rfl rfl ?_
  refine G.loadAt (by first | exact .here | exact .next .here | exact .next (.next .here) | exact .next (.next (.next .here)) | exact .next (.next (.next (.next .here))) | exact .next (.next (.next (.next (.next .here)))) | exact .next (.next (.next (.next (.next (.next .here))))) | exact .next (.next (.next (.next (.next (.next (.next .here)))))) | exact .in1 | exact .next .in1 | exact .next (.next .in1) | exact .next (.next (.next .in1)) | exact .next (.next (.next (.next .in1))) | exact .in2 | exact .next .in2 | exact .next (.next .in2) | exact .next (.next (.next .in2)) | exact .next (.next (.next (.next .in2))) | exact .app .here | exact .app (.next .here) | exact .app (.next (.next .here)) | exact .app (.next (.next (.next .here))) | exact .app (.next (.next (.next (.next .here)))) | exact .app (.next (.next (.next (.next (.next .here))))) | exact .app (.next (.next (.next (.next (.next (.next .here)))))) | exact .app (.next (.next (.next (.next (.next (.next (.next .here))))))) | exact .app .in1 | exact .app .in2 | exact .app (.next .in1) | exact .next (.app .in1) | exact .next (.next (.app .in1)) | exact .next (.app .here) | exact .next (.next (.app .here)) | exact .next (.next (.next (.app .here))) | exact .next (.next (.next (.next (.app .here))))) rfl trivial rfl rfl Try.underlying56 rfl rfl (by rfl) ?_
  refine G.call E27 rfl rfl trivial rfl rfl (keys_spec W0 _ bm) rfl ?_
  rintro e L2 ⟨bp, rfl, rfl⟩
  refine G.call E26 rfl rfl trivial rfl rfl (sorted_spec W0 _ bm bp ck es _ _ (.next (.next .here)) .here hm.keys hm.born hm.old hval (by omega)) rfl ?_
  rintro e L2 ⟨v15, s15, hv15, rfl, rfl⟩
  generalize hgk : sortZ (es.map (·.1)) = ks at hks hkl hv15 ⊢
  obtain ⟨a15, c15, rfl, _⟩ := hv15.form
  refine G.lenSlice rfl trivial rfl rfl Try.underlying46 rfl ?_
  refine G.moveI rfl trivial rfl rfl rfl ?_
  refine G.less (L' := [] :: [] :: s15 :: [(bp, .row [.map (some bm)] 56 1)] :: shS bs bm pv :: [(bm, mapO .i64 es ck)] :: S :: L) (fun _ h => h.empty.empty) ?_
  refine G.nil ?_
  refine C.block ?_
  refine C.loop (fun m F D' L' => ∃ (i : Nat) (ims : List Im) (ao : Option Addr) (co : Nat) (so : Seg), m = ks.length - i + 0 ∧ i ≤ ks.length ∧ ims.length ≤ i ∧ ims.map imP = chg mg R (ks.take i) ∧ (∀ e ∈ ims, e.2.2.2.2.length ≤ e.2.2.1 ∧ e.2.2.1 ≤ e.2.2.2.1) ∧ OwnS (.slice ao ims.length co) ims.length (ims.flatMap imC) 40 2 so ∧ F 0 = ptr bs ∧ F 3 = .slice ao ims.length co ∧ F 15 = .slice a15 ks.length c15 ∧ F 16 = .int .i64 (ks.length : Int) ∧ F 17 = .int .i64 (i : Int) ∧ D' = [] ∧ so :: ims.map imB :: s15 :: [(bp, .row [.map (some bm)] 56 1)] :: shS bs bm pv :: [(bm, mapO .i64 es ck)] :: S :: L = L') ⟨_, ⟨0, [], none, 0, [], rfl, Nat.zero_le _, Nat.zero_le _, rfl, by simp, OwnS.nil _ _, rfl, rfl, rfl, rfl, rfl, rfl, rfl⟩⟩ ?_
  rintro m F D' L' ⟨i, ims, ao, co, so, rfl, hi, hil, him, hcaps, hon, h0, h3, h15, h16, h17, rfl, rfl⟩
  refine C.fix (d := 0) h0 ?_
  refine C.fix (d := 3) h3 ?_
  refine C.fix (d := 15) h15 ?_
  refine C.fix (d := 16) h16 ?_
  refine C.fix (d := 17) h17 ?_
  refine C.seq ?_
  refine C.region ?_
  refine G.bin rfl trivial rfl rfl rfl rfl rfl ?_
  refine G.nil ?_
  refine C.seq ?_
  refine C.cond _ rfl ?_ ?_
  · intro hc1
    have hlt : i < ks.length := by omega
    obtain ⟨bq, cq, kq, hveq, rfl, hq1, hq2⟩ := hv15.block (by omega)
    cases hveq
    obtain ⟨b, hmb, hbl, hk0, hk95⟩ := hks ks[i]! (by simp [hlt])
    have hct := chg_take mg R hlt
    have hgv : (mget es ks[i]!).getD (.string ByteArray.empty) = .string (strB b) := by rw [hm.val, hmb]; rfl
    refine C.skip ?_
    refine C.seq ?_
    refine C.block ?_
    refine C.seq ?_
    refine C.region ?_
    refine G.idxN rfl trivial rfl rfl Try.underlying46 I3 rfl rfl (by omega) ?_
    refine G.loadAt (.next (.next .here)) rfl trivial rfl rfl Try.underlying3 rfl rfl (map_at hlt) ?_
    refine G.assignI rfl trivial rfl rfl rfl ?_
    refine G.nil ?_
    refine C.seq ?_
    refine C.region ?_
    refine G.moveP rfl trivial rfl rfl rfl ?_
    refine G.moveI rfl trivial rfl rfl rfl ?_
    by_cases hR : ∃ xs, R ks[i]! = .ok xs
    ·
      obtain ⟨xs, hR⟩ := hR
      refine G.call E25 rfl rfl trivial rfl rfl (FnS.perm (sbelow_ok W0 bs (so :: ims.map imB :: [(bq, .row (ks.map (Value.int .i64)) 3 kq)] :: [(bp, .row [.map (some bm)] 56 1)] :: L) bm pv es ck S R h ks[i]! (by omega) xs hR) (List.perm_append_comm_assoc [so, ims.map imB, [(bq, .row (ks.map (Value.int .i64)) 3 kq)], [(bp, .row [.map (some bm)] 56 1)]] [shS bs bm pv, [(bm, mapO .i64 es ck)], S] L).flatten) rfl ?_
      rintro e L2 ⟨a24, c24, s24, hv24, rfl, rfl⟩
      obtain ⟨az, cz, hae, hr24⟩ := hv24.form
      cases hae
      refine G.moveU rfl trivial rfl rfl rfl ?_
      refine G.extractL rfl trivial rfl rfl rfl rfl ?_
      refine G.extractL rfl trivial rfl rfl rfl rfl ?_
      refine G.assignS rfl trivial rfl rfl rfl ?_
      refine G.assignI rfl trivial rfl rfl rfl ?_
      refine G.nil ?_
      refine C.seq ?_
      refine C.drawn mixed (_) [] (fun _ h => h) ?_
      refine GA.pure (i := 0) (fun _ _ _ _ _ h => h) rfl (by kernel_rfl) trivial rfl rfl (Y.moveI rfl rfl) (#[true, false, false, false, false, false, false, false, false, false, false, false, false]) (by kernel_rfl) ?_
      refine GA.pure (i := 1) (fun _ _ _ _ _ h => h) rfl (by kernel_rfl) trivial rfl rfl (Y.bin rfl rfl rfl rfl) (#[true, true, false, false, false, false, false, false, false, false, false, false, false]) (by kernel_rfl) ?_
      refine GA.pure (i := 2) (fun _ _ _ _ _ h => h) rfl (by kernel_rfl) trivial rfl rfl (Y.moveB rfl rfl) (#[true, true, true, false, false, false, false, false, false, false, false, false, false]) (by kernel_rfl) ?_
      refine GA.no (t := 29) rfl (by decide) ?_
      refine GA.pure (i := 3) (fun _ _ _ _ _ h => h) rfl (by kernel_rfl) ⟨_, rfl, rfl, rfl⟩ rfl rfl (Y.moveS rfl rfl) (#[true, true, true, true, false, false, false, false, false, false, false, false, false]) (by kernel_rfl) ?_
      refine GA.read (i := 4) (fun _ _ _ _ _ h => h) rfl (by kernel_rfl) (by kernel_rfl) ⟨_, rfl, rfl, rfl⟩ rfl rfl (Y.bytesStr xs rfl Try.underlying22 Try.underlying5 Try.underlying9 rfl rfl (hr24 W0 _)) (#[true, true, true, true, true, false, false, false, false, false, false, false, false]) (by kernel_rfl) ?_
      refine GA.pure (i := 5) (fun _ _ _ _ _ h => h) rfl (by kernel_rfl) ⟨_, rfl, rfl, rfl⟩ rfl rfl (Y.moveP rfl rfl) (#[true, true, true, true, true, true, false, false, false, false, false, false, false]) (by kernel_rfl) ?_
      first | refine GA.pure (i := 6) (fun _ _ _ _ _ h => h) rfl (by kernel_rfl) ⟨_, rfl, rfl, rfl⟩ rfl rfl (Y.nilCheckP rfl rfl) (#[true, true, true, true, true, true, true, false, false, false, false, false, false]) (by kernel_rfl) ?_ | refine GA.pure (i := 6) (fun _ _ _ _ _ h => h) rfl (by kernel_rfl) ⟨_, rfl, rfl, rfl⟩ rfl rfl (Y.nilCheckF rfl rfl) (#[true, true, true, true, true, true, true, false, false, false, false, false, false]) (by kernel_rfl) ?_
      refine GA.pure (i := 7) (fun _ _ _ _ _ h => h) rfl (by kernel_rfl) ⟨_, rfl, rfl, rfl⟩ rfl rfl (Y.fieldAddr rfl Try.underlying58 rfl I56 rfl rfl) (#[true, true, true, true, true, true, true, true, false, false, false, false, false]) (by kernel_rfl) ?_
      refine GA.read (i := 8) (fun _ _ _ _ _ h => h) rfl (by kernel_rfl) (by kernel_rfl) ⟨_, rfl, rfl, rfl⟩ rfl rfl (Y.loadAt (v := .map (some bm)) (.next .here) rfl Try.underlying56 rfl rfl rfl) (#[true, true, true, true, true, true, true, true, true, false, false, false, false]) (by kernel_rfl) ?_
      refine GA.pure (i := 9) (fun _ _ _ _ _ h => h) rfl (by kernel_rfl) ⟨_, rfl, rfl, rfl⟩ rfl rfl (Y.moveI rfl rfl) (#[true, true, true, true, true, true, true, true, true, true, false, false, false]) (by kernel_rfl) ?_
      refine GA.read (i := 10) (fun _ _ _ _ _ h => h) rfl (by kernel_rfl) (by kernel_rfl) ⟨_, rfl, rfl, rfl⟩ rfl rfl (Y.lookupV (.next (.next .here)) rfl Try.underlying56 Try.underlying3 I9 rfl rfl hgv) (#[true, true, true, true, true, true, true, true, true, true, true, false, false]) (by kernel_rfl) ?_
      refine GA.pure (i := 11) (fun _ _ _ _ _ h => h) rfl (by kernel_rfl) ⟨_, rfl, rfl, rfl⟩ rfl rfl (Y.strNe rfl  rfl rfl) (#[true, true, true, true, true, true, true, true, true, true, true, true, false]) (by kernel_rfl) ?_
      first | refine GA.pure (i := 12) (fun _ _ _ _ _ h => h) rfl (by kernel_rfl) trivial rfl rfl (Y.pickT rfl rfl rfl) (#[true, true, true, true, true, true, true, true, true, true, true, true, true]) (by kernel_rfl) ?_ | refine GA.pure (i := 12) (fun _ _ _ _ _ h => h) rfl (by kernel_rfl) trivial rfl rfl (Y.pickF rfl rfl rfl) (#[true, true, true, true, true, true, true, true, true, true, true, true, true]) (by kernel_rfl) ?_
      refine GA.done (by kernel_rfl) ?_
      refine C.cond _ rfl ?_ ?_
      · intro hc2
        have hch : chg1 mg R ks[i]! = some (ks[i]!, b) := by unfold chg1; rw [hmb]; unfold ansIs; rw [hR]; simp; exact fun h2 => hc2 (by rw [h2])
        refine C.less (L' := so :: ims.map imB :: [(bq, .row (ks.map (Value.int .i64)) 3 kq)] :: [(bp, .row [.map (some bm)] 56 1)] :: shS bs bm pv :: [(bm, mapO .i64 es ck)] :: S :: L) (fun _ h => h.tail.of_flat (List.perm_append_comm_assoc [shS bs bm pv, [(bm, mapO .i64 es ck)], S] [so, ims.map imB, [(bq, .row (ks.map (Value.int .i64)) 3 kq)], [(bp, .row [.map (some bm)] 56 1)]] L).flatten) ?_
        refine C.region ?_
        refine G.moveS rfl trivial rfl rfl rfl ?_
        refine G.moveI rfl trivial rfl rfl rfl ?_
        refine G.moveP rfl trivial rfl rfl rfl ?_
        first | refine G.nilCheckP rfl trivial rfl rfl rfl ?_ | refine G.nilCheckF rfl trivial rfl rfl rfl ?_
        refine G.fieldAddr rfl trivial rfl rfl Try.underlying58 rfl I56 rfl rfl ?_
        refine G.loadAt (v := .map (some bm)) (.next (.next (.next (.next .here)))) rfl trivial rfl rfl Try.underlying56 rfl rfl rfl ?_
        refine G.moveI rfl trivial rfl rfl rfl ?_
        refine G.lookupV (.next (.next (.next (.next (.next .here))))) rfl trivial rfl rfl Try.underlying56 Try.underlying3 I9 rfl rfl ?_
        rw [hgv]
        refine G.strBytes rfl trivial rfl rfl Try.underlying9 Try.underlying22 Try.underlying5 rfl ?_
        intro b48 c48 hc48
        rw [toList_strB, strB_size]
        rw [strB_size] at hc48
        refine G.buildL (cs := imC (ks[i]!, b48, c48, c48, b)) rfl trivial rfl rfl Try.underlying40 I40 B40 rfl rfl ?_
        refine G.buildSliceL (cs := imC (ks[i]!, b48, c48, c48, b)) (zs := [(.int .i64 0), (.slice none 0 0)]) rfl trivial rfl rfl Try.underlying38 I40 rfl (by kernel_rfl) rfl rfl ?_
        intro b50
        refine G.less (L' := so :: [(b50, .row (imC (ks[i]!, b48, c48, c48, b)) 40 2)] :: [(b48, .row (bytesV b) 5 c48)] :: ims.map imB :: [(bq, .row (ks.map (Value.int .i64)) 3 kq)] :: [(bp, .row [.map (some bm)] 56 1)] :: shS bs bm pv :: [(bm, mapO .i64 es ck)] :: S :: L) (fun _ h => h.up3) ?_
        refine G.append hon rfl trivial rfl rfl Try.underlying38 Try.underlying38 I40 rfl (by decide) rfl rfl (by decide) (Rd.row0 (.next .here)) rfl (imC_ok _) (by omega) ?_
        intro v51 s51 hv51
        obtain ⟨a51, c51, rfl, _⟩ := hv51.form
        refine G.assignS rfl trivial rfl rfl rfl ?_
        refine G.nil ?_
        refine C.region ?_
        refine G.addN (j := 1) rfl trivial rfl rfl rfl rfl (by omega) ?_
        refine G.moveI rfl trivial rfl rfl rfl ?_
        refine G.less (L' := s51 :: (ims ++ [(ks[i]!, b48, c48, c48, b)]).map imB :: [(bq, .row (ks.map (Value.int .i64)) 3 kq)] :: [(bp, .row [.map (some bm)] 56 1)] :: shS bs bm pv :: [(bm, mapO .i64 es ck)] :: S :: L) (fun _ h => by rw [List.map_append]; exact h.skip1.intoEnd2) ?_
        refine G.nil ?_
        have e1 : (ims ++ [(ks[i]!, b48, c48, c48, b)]).length = ims.length + 1 := by simp
        exact ⟨ks.length - (i + 1) + 0, by omega, i + 1, ims ++ [(ks[i]!, b48, c48, c48, b)], a51, c51, s51, rfl, by omega, by omega, by rw [List.map_append, him, hct, hch]; rfl, fun e he => by rcases List.mem_append.1 he with he | he; exact hcaps e he; rw [List.mem_singleton.1 he]; exact ⟨by omega, Nat.le_refl _⟩, by rw [e1, List.flatMap_append]; simpa using hv51, rfl, by rw [e1]; rfl, rfl, rfl, rfl, rfl, rfl⟩
      · intro hc2
        have hch : chg1 mg R ks[i]! = none := by unfold chg1; rw [hmb]; unfold ansIs; rw [hR]; simp; exact strB_inj.1 (Classical.not_not.1 hc2)
        refine C.less (L' := so :: ims.map imB :: [(bq, .row (ks.map (Value.int .i64)) 3 kq)] :: [(bp, .row [.map (some bm)] 56 1)] :: shS bs bm pv :: [(bm, mapO .i64 es ck)] :: S :: L) (fun _ h => h.tail.of_flat (List.perm_append_comm_assoc [shS bs bm pv, [(bm, mapO .i64 es ck)], S] [so, ims.map imB, [(bq, .row (ks.map (Value.int .i64)) 3 kq)], [(bp, .row [.map (some bm)] 56 1)]] L).flatten) ?_
        refine C.skip ?_
        refine C.region ?_
        refine G.addN (j := 1) rfl trivial rfl rfl rfl rfl (by omega) ?_
        refine G.moveI rfl trivial rfl rfl rfl ?_
        refine G.nil ?_
        exact ⟨ks.length - (i + 1) + 0, by omega, i + 1, ims, ao, co, so, rfl, by omega, by omega, by rw [him, hct, hch]; simp, hcaps, hon, rfl, rfl, rfl, rfl, rfl, rfl, rfl⟩
    ·
      obtain ⟨c, hR⟩ : ∃ c, R ks[i]! = .error c := by
        cases hq : R ks[i]! with
        | ok xs => exact absurd ⟨xs, hq⟩ hR
        | error c => exact ⟨c, rfl⟩
      have hc := h.errs ks[i]! c hR
      refine G.call E25 rfl rfl trivial rfl rfl (FnS.read (sbelow_err W0 bs (so :: ims.map imB :: [(bq, .row (ks.map (Value.int .i64)) 3 kq)] :: [(bp, .row [.map (some bm)] 56 1)] :: L) bm pv es ck S R h ks[i]! (by omega) c hR) (List.perm_append_comm_assoc [so, ims.map imB, [(bq, .row (ks.map (Value.int .i64)) 3 kq)], [(bp, .row [.map (some bm)] 56 1)]] [shS bs bm pv, [(bm, mapO .i64 es ck)], S] L).flatten) rfl ?_
      rintro e L2 ⟨rfl, rfl⟩
      refine G.moveU rfl trivial rfl rfl rfl ?_
      refine G.extractL rfl trivial rfl rfl rfl rfl ?_
      refine G.extractL rfl trivial rfl rfl rfl rfl ?_
      refine G.assignS rfl trivial rfl rfl rfl ?_
      refine G.assignI rfl trivial rfl rfl rfl ?_
      refine G.nil ?_
      refine C.seq ?_
      refine C.drawn mixed (_) [] (fun _ h => h) ?_
      refine GA.pure (i := 0) (fun _ _ _ _ _ h => h) rfl (by kernel_rfl) trivial rfl rfl (Y.moveI rfl rfl) (#[true, false, false, false, false, false, false, false, false, false, false, false, false]) (by kernel_rfl) ?_
      refine GA.pure (i := 1) (fun _ _ _ _ _ h => h) rfl (by kernel_rfl) trivial rfl rfl (Y.bin rfl rfl rfl rfl) (#[true, true, false, false, false, false, false, false, false, false, false, false, false]) (by kernel_rfl) ?_
      refine GA.pure (i := 2) (fun _ _ _ _ _ h => h) rfl (by kernel_rfl) trivial rfl rfl (Y.moveB rfl rfl) (#[true, true, true, false, false, false, false, false, false, false, false, false, false]) (by kernel_rfl) ?_
      refine GA.yes (t := 29) rfl hc ?_
      refine GA.skip (i := 3) (fun _ _ _ _ _ h => h) rfl (by kernel_rfl) rfl rfl rfl rfl rfl rfl (#[true, true, true, true, false, false, false, false, false, false, false, false, false]) (by kernel_rfl) ?_
      refine GA.skip (i := 4) (fun _ _ _ _ _ h => h) rfl (by kernel_rfl) rfl rfl rfl rfl rfl rfl (#[true, true, true, true, true, false, false, false, false, false, false, false, false]) (by kernel_rfl) ?_
      refine GA.skip (i := 5) (fun _ _ _ _ _ h => h) rfl (by kernel_rfl) rfl rfl rfl rfl rfl rfl (#[true, true, true, true, true, true, false, false, false, false, false, false, false]) (by kernel_rfl) ?_
      refine GA.skip (i := 6) (fun _ _ _ _ _ h => h) rfl (by kernel_rfl) rfl rfl rfl rfl rfl rfl (#[true, true, true, true, true, true, true, false, false, false, false, false, false]) (by kernel_rfl) ?_
      refine GA.skip (i := 7) (fun _ _ _ _ _ h => h) rfl (by kernel_rfl) rfl rfl rfl rfl rfl rfl (#[true, true, true, true, true, true, true, true, false, false, false, false, false]) (by kernel_rfl) ?_
      refine GA.skip (i := 8) (fun _ _ _ _ _ h => h) rfl (by kernel_rfl) rfl rfl rfl rfl rfl rfl (#[true, true, true, true, true, true, true, true, true, false, false, false, false]) (by kernel_rfl) ?_
      refine GA.skip (i := 9) (fun _ _ _ _ _ h => h) rfl (by kernel_rfl) rfl rfl rfl rfl rfl rfl (#[true, true, true, true, true, true, true, true, true, true, false, false, false]) (by kernel_rfl) ?_
      refine GA.skip (i := 10) (fun _ _ _ _ _ h => h) rfl (by kernel_rfl) rfl rfl rfl rfl rfl rfl (#[true, true, true, true, true, true, true, true, true, true, true, false, false]) (by kernel_rfl) ?_
      refine GA.skip (i := 11) (fun _ _ _ _ _ h => h) rfl (by kernel_rfl) rfl rfl rfl rfl rfl rfl (#[true, true, true, true, true, true, true, true, true, true, true, true, false]) (by kernel_rfl) ?_
      first | refine GA.pure (i := 12) (fun _ _ _ _ _ h => h) rfl (by kernel_rfl) trivial rfl rfl (Y.pickT rfl rfl rfl) (#[true, true, true, true, true, true, true, true, true, true, true, true, true]) (by kernel_rfl) ?_ | refine GA.pure (i := 12) (fun _ _ _ _ _ h => h) rfl (by kernel_rfl) trivial rfl rfl (Y.pickF rfl rfl rfl) (#[true, true, true, true, true, true, true, true, true, true, true, true, true]) (by kernel_rfl) ?_
      refine GA.done (by kernel_rfl) ?_
      refine C.condT rfl ?_
      refine C.region ?_
      refine G.moveS rfl trivial rfl rfl rfl ?_
      refine G.moveI rfl trivial rfl rfl rfl ?_
      refine G.moveP rfl trivial rfl rfl rfl ?_
      first | refine G.nilCheckP rfl trivial rfl rfl rfl ?_ | refine G.nilCheckF rfl trivial rfl rfl rfl ?_
      refine G.fieldAddr rfl trivial rfl rfl Try.underlying58 rfl I56 rfl rfl ?_
      refine G.loadAt (v := .map (some bm)) (.next (.next (.next (.next .here)))) rfl trivial rfl rfl Try.underlying56 rfl rfl rfl ?_
      refine G.moveI rfl trivial rfl rfl rfl ?_
      refine G.lookupV (.next (.next (.next (.next (.next .here))))) rfl trivial rfl rfl Try.underlying56 Try.underlying3 I9 rfl rfl ?_
      rw [hgv]
      refine G.strBytes rfl trivial rfl rfl Try.underlying9 Try.underlying22 Try.underlying5 rfl ?_
      intro b48 c48 hc48
      rw [toList_strB, strB_size]
      rw [strB_size] at hc48
      refine G.buildL (cs := imC (ks[i]!, b48, c48, c48, b)) rfl trivial rfl rfl Try.underlying40 I40 B40 rfl rfl ?_
      refine G.buildSliceL (cs := imC (ks[i]!, b48, c48, c48, b)) (zs := [(.int .i64 0), (.slice none 0 0)]) rfl trivial rfl rfl Try.underlying38 I40 rfl (by kernel_rfl) rfl rfl ?_
      intro b50
      refine G.less (L' := so :: [(b50, .row (imC (ks[i]!, b48, c48, c48, b)) 40 2)] :: [(b48, .row (bytesV b) 5 c48)] :: ims.map imB :: [(bq, .row (ks.map (Value.int .i64)) 3 kq)] :: [(bp, .row [.map (some bm)] 56 1)] :: shS bs bm pv :: [(bm, mapO .i64 es ck)] :: S :: L) (fun _ h => h.up3) ?_
      refine G.append hon rfl trivial rfl rfl Try.underlying38 Try.underlying38 I40 rfl (by decide) rfl rfl (by decide) (Rd.row0 (.next .here)) rfl (imC_ok _) (by omega) ?_
      intro v51 s51 hv51
      obtain ⟨a51, c51, rfl, _⟩ := hv51.form
      refine G.assignS rfl trivial rfl rfl rfl ?_
      refine G.nil ?_
      refine C.region ?_
      refine G.addN (j := 1) rfl trivial rfl rfl rfl rfl (by omega) ?_
      refine G.moveI rfl trivial rfl rfl rfl ?_
      refine G.less (L' := s51 :: (ims ++ [(ks[i]!, b48, c48, c48, b)]).map imB :: [(bq, .row (ks.map (Value.int .i64)) 3 kq)] :: [(bp, .row [.map (some bm)] 56 1)] :: shS bs bm pv :: [(bm, mapO .i64 es ck)] :: S :: L) (fun _ h => by rw [List.map_append]; exact h.skip1.intoEnd2) ?_
      refine G.nil ?_
      have hch : chg1 mg R ks[i]! = some (ks[i]!, b) := by unfold chg1; rw [hmb]; unfold ansIs; rw [hR]; simp
      have e1 : (ims ++ [(ks[i]!, b48, c48, c48, b)]).length = ims.length + 1 := by simp
      exact ⟨ks.length - (i + 1) + 0, by omega, i + 1, ims ++ [(ks[i]!, b48, c48, c48, b)], a51, c51, s51, rfl, by omega, by omega, by rw [List.map_append, him, hct, hch]; rfl, fun e he => by rcases List.mem_append.1 he with he | he; exact hcaps e he; rw [List.mem_singleton.1 he]; exact ⟨by omega, Nat.le_refl _⟩, by rw [e1, List.flatMap_append]; simpa using hv51, rfl, by rw [e1]; rfl, rfl, rfl, rfl, rfl, rfl⟩
  · intro hc1
    rw [List.take_of_length_le (show ks.length ≤ i by omega)] at him
    have hlen : ims.length = (chg mg R ks).length := by rw [← him]; simp
    rw [hlen] at hon h3 ⊢
    refine C.exit ?_
    refine C.seq ?_
    refine C.region ?_
    refine G.moveS rfl trivial rfl rfl rfl ?_
    refine G.assignS rfl trivial rfl rfl rfl ?_
    refine G.nil ?_
    refine C.ret ?_
    -- end c1F
    exact ⟨rfl, _, Res.of (rs := [.tmp 2]) rfl rfl, ao, co, so, _, s15, _, ⟨ims, him, hcaps, by rw [hlen]; exact hon, rfl⟩, rfl, rfl⟩
end sheet
end Sht
end Go.Proofs.Ytgfdghhojnmaoaa
