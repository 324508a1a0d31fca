/-
  The library's Compact at whole numbers, walked: of those that stand behind one another and are the same one stays.
-/
import Derived.Test.YtomiidlbfcfpiaaSLT
import Derived.Test.YtomiidlbfcfpiaaTy
import Derived.Sort.LotA
namespace Go.Proofs.Ytomiidlbfcfpiaa
open Go Go.SL Go.RowKit Go.Sort

def cstep (acc : List Int) (x : Int) : List Int := if acc.getLast? = some x then acc else acc ++ [x]
/-- of those behind one another that are the same one -/
def compactL (l : List Int) : List Int := l.foldl cstep []
theorem compact_snoc (l : List Int) (x : Int) : compactL (l ++ [x]) = cstep (compactL l) x := by simp [compactL]
theorem last_app (l : List Int) (x : Int) : (l ++ [x]).getLast? = some x := by simp
theorem compact_last : ∀ n (l : List Int), l.length = n → (compactL l).getLast? = l.getLast?
  | 0, l, h => by rw [List.eq_nil_of_length_eq_zero h]; rfl
  | n + 1, l, h => by
    obtain ⟨m, x, rfl⟩ : ∃ m x, l = m ++ [x] := ⟨l.dropLast, l.getLast (by intro e; rw [e] at h; cases h), (List.dropLast_concat_getLast _).symm⟩
    rw [compact_snoc, last_app]
    unfold cstep
    split
    · assumption
    · exact last_app _ _
theorem compact_small {l : List Int} (h : l.length < 2) : compactL l = l := by
  match l, h with
  | [], _ => rfl
  | [x], _ => rfl
theorem take_snoc {l : List Int} {j : Nat} (h : j < l.length) : l.take (j + 1) = l.take j ++ [l[j]!] := by
  rw [List.take_succ_eq_append_getElem h]
  simp [h]
theorem take_last {l : List Int} {j : Nat} (h0 : 1 ≤ j) (h : j ≤ l.length) : (l.take j).getLast? = some l[j - 1]! := by
  obtain ⟨k, rfl⟩ : ∃ k, j = k + 1 := ⟨j - 1, by omega⟩
  rw [take_snoc (by omega), last_app, Nat.add_sub_cancel]
theorem compact_take {l : List Int} {j : Nat} (h0 : 1 ≤ j) (h : j < l.length) : compactL (l.take (j + 1)) = if l[j - 1]! = l[j]! then compactL (l.take j) else compactL (l.take j) ++ [l[j]!] := by
  rw [take_snoc h, compact_snoc]
  unfold cstep
  rw [compact_last _ _ rfl, take_last h0 (by omega)]
  by_cases e : l[j - 1]! = l[j]!
  · rw [if_pos (by rw [e]), if_pos e]
  · rw [if_neg (by intro h; exact e (Option.some.inj h)), if_neg e]
theorem compact_len : ∀ n (l : List Int), l.length = n → (compactL l).length ≤ n
  | 0, l, h => by rw [List.eq_nil_of_length_eq_zero h]; exact Nat.le_refl _
  | n + 1, l, h => by
    obtain ⟨m, x, rfl⟩ : ∃ m x, l = m ++ [x] := ⟨l.dropLast, l.getLast (by intro e; rw [e] at h; cases h), (List.dropLast_concat_getLast _).symm⟩
    have ih := compact_len n m (by simpa using h)
    rw [compact_snoc]
    unfold cstep
    split
    · omega
    · simp; omega
theorem get_toList (d : Array Int) (i : Nat) : d.toList[i]! = d[i]! := by
  by_cases h : i < d.size
  · simp [h]
  · simp [h]
section compact
variable (W0 : World)
theorem compact_spec (L : List Seg) (v : Value) (l : List Int) (s1 : Seg) (hv : OwnS v l.length (l.map (Value.int .i64)) 2 1 s1) (hl : l.length ≤ 1000000) :
    FnS Try.prog W0 42 #[v] (s1 :: L) (fun e L' => ∃ v' s1', OwnS v' (compactL l).length ((compactL l).map (Value.int .i64)) 2 1 s1' ∧ L' = s1' :: L ∧ e = .returned v') := by
  obtain ⟨a, c, rfl, _⟩ := hv.form
  refine FnS.of (args := [.slice a l.length c]) Try.func42 rfl rfl ?_
  refine C.seq ?_
  refine C.region ?_
  refine G.assignS rfl trivial rfl rfl rfl ?_
  refine G.nil ?_
  refine C.seq ?_
  refine C.seq ?_
  refine C.region ?_
  refine G.moveS rfl trivial rfl rfl rfl ?_
  refine G.lenSlice rfl trivial rfl rfl Try.underlying27 rfl ?_
  refine G.bin rfl trivial rfl rfl rfl rfl rfl ?_
  refine G.nil ?_
  refine C.cond _ rfl ?_ ?_
  · intro hc0
    refine C.seq ?_
    refine C.region ?_
    refine G.moveS rfl trivial rfl rfl rfl ?_
    refine G.assignS rfl trivial rfl rfl rfl ?_
    refine G.nil ?_
    refine C.ret ?_
    -- end c0T
    exact ⟨rfl, _, Res.of (rs := [.tmp 2]) rfl rfl, _, s1, by rw [compact_small (by omega)]; exact hv, rfl, rfl⟩
  · intro hc0
    obtain ⟨bq, cq, kq, hveq, rfl, hq1, hq2⟩ := hv.block (by omega)
    cases hveq
    obtain ⟨d, rfl⟩ : ∃ d : Array Int, d.toList = l := ⟨l.toArray, rfl⟩
    refine C.less (L' := [(bq, .row (ic d []) 2 kq)] :: L) (fun _ h => by simpa [ic] using h) ?_
    have hdl : d.toList.length = d.size := Array.length_toList
    refine C.skip ?_
    refine C.seq ?_
    refine C.seq ?_
    refine C.region ?_
    refine G.assignI rfl trivial rfl rfl rfl ?_
    refine G.nil ?_
    refine C.block ?_
    refine C.loop (fun m F D' L' => ∃ (k : Nat), m = d.size - k + 0 ∧ 1 ≤ k ∧ k ≤ d.size ∧ compactL (d.toList.take k) = d.toList.take k ∧ F 0 = .slice (some ⟨bq, 0, none⟩) d.toList.length c ∧ F 3 = .int .i64 (k : Int) ∧ D' = [] ∧ [(bq, .row (ic d []) 2 kq)] :: L = L') ⟨_, ⟨1, rfl, by omega, by omega, compact_small (by rw [List.length_take]; omega), rfl, rfl, rfl, rfl⟩⟩ ?_
    rintro m F D' L' ⟨k, rfl, hk1, hk2, hck, h0, h3, rfl, rfl⟩
    refine C.fix (d := 0) h0 ?_
    refine C.fix (d := 3) h3 ?_
    refine C.seq ?_
    refine C.seq ?_
    refine C.region ?_
    refine G.moveI rfl trivial rfl rfl rfl ?_
    refine G.moveS rfl trivial rfl rfl rfl ?_
    refine G.lenSlice rfl trivial rfl rfl Try.underlying27 rfl ?_
    refine G.bin rfl trivial rfl rfl rfl rfl rfl ?_
    refine G.nil ?_
    refine C.cond _ rfl ?_ ?_
    · intro hc1
      have hlt : k < d.size := by omega
      have hct := compact_take (l := d.toList) hk1 (by omega)
      rw [get_toList, get_toList] at hct
      refine C.skip ?_
      refine C.seq ?_
      refine C.block ?_
      refine C.seq ?_
      refine C.drawn mixed (_) [] (fun _ h => h) ?_
      refine GA.pure (i := 0) (fun _ _ _ _ _ h => h) rfl (by kernel_rfl) trivial rfl rfl (Y.moveS rfl rfl) (#[true, false, false, false, false, false, false, false, false, false]) (by kernel_rfl) ?_
      refine GA.pure (i := 1) (fun _ _ _ _ _ h => h) rfl (by kernel_rfl) trivial rfl rfl (Y.moveI rfl rfl) (#[true, true, false, false, false, false, false, false, false, false]) (by kernel_rfl) ?_
      refine GA.pure (i := 2) (fun _ _ _ _ _ h => h) rfl (by kernel_rfl) trivial rfl rfl (Y.idxN rfl Try.underlying27 I2 rfl rfl (by omega)) (#[true, true, true, false, false, false, false, false, false, false]) (by kernel_rfl) ?_
      refine GA.read (i := 3) (fun _ _ _ _ _ h => h) rfl (by kernel_rfl) (by kernel_rfl) trivial rfl rfl (Y.ldI .here rfl Try.underlying2 rfl rfl (by omega)) (#[true, true, true, true, false, false, false, false, false, false]) (by kernel_rfl) ?_
      refine GA.pure (i := 4) (fun _ _ _ _ _ h => h) rfl (by kernel_rfl) trivial rfl rfl (Y.moveS rfl rfl) (#[true, true, true, true, true, false, false, false, false, false]) (by kernel_rfl) ?_
      refine GA.pure (i := 5) (fun _ _ _ _ _ h => h) rfl (by kernel_rfl) trivial rfl rfl (Y.moveI rfl rfl) (#[true, true, true, true, true, true, false, false, false, false]) (by kernel_rfl) ?_
      refine GA.pure (i := 6) (fun _ _ _ _ _ h => h) rfl (by kernel_rfl) trivial rfl rfl (Y.subN (j := 1) rfl rfl rfl (by omega)) (#[true, true, true, true, true, true, true, false, false, false]) (by kernel_rfl) ?_
      refine GA.pure (i := 7) (fun _ _ _ _ _ h => h) rfl (by kernel_rfl) trivial rfl rfl (Y.idxN rfl Try.underlying27 I2 rfl rfl (by omega)) (#[true, true, true, true, true, true, true, true, false, false]) (by kernel_rfl) ?_
      refine GA.read (i := 8) (fun _ _ _ _ _ h => h) rfl (by kernel_rfl) (by kernel_rfl) trivial rfl rfl (Y.ldI .here rfl Try.underlying2 rfl rfl (by omega)) (#[true, true, true, true, true, true, true, true, true, false]) (by kernel_rfl) ?_
      refine GA.pure (i := 9) (fun _ _ _ _ _ h => h) rfl (by kernel_rfl) trivial rfl rfl (Y.bin rfl rfl rfl rfl) (#[true, true, true, true, true, true, true, true, true, true]) (by kernel_rfl) ?_
      refine GA.done (by kernel_rfl) ?_
      refine C.cond _ rfl ?_ ?_
      · intro hc2
        refine C.seq ?_
        refine C.region ?_
        refine G.moveS rfl trivial rfl rfl rfl ?_
        refine G.moveI rfl trivial rfl rfl rfl ?_
        refine G.sliceL rfl trivial rfl rfl Try.underlying27 I2 rfl rfl (by omega) ?_
        refine G.fix (d := 28) (v := .slice (some ⟨bq, k, none⟩) (d.size - k) (c - k)) (by show Value.slice (cutA (some ⟨bq, 0, none⟩) c (k : Int).toNat 1) (d.toList.length - (k : Int).toNat) (c - (k : Int).toNat) = _; unfold cutA; rw [Int.toNat_natCast, if_neg (by omega), hdl]; simp [add_mul_addr]) ?_
        refine G.assignS rfl trivial rfl rfl rfl ?_
        refine G.nil ?_
        refine C.seq ?_
        refine C.seq ?_
        refine C.region ?_
        refine G.assignI rfl trivial rfl rfl rfl ?_
        refine G.nil ?_
        refine C.block ?_
        refine C.loop (fun m F D' L' => ∃ (k1 k2 : Nat) (e : Array Int), m = d.size - k2 + 0 ∧ e.size = d.size ∧ 1 ≤ k2 ∧ k + k2 ≤ d.size ∧ k1 + 1 ≤ k + k2 ∧ e.toList.take k1 = compactL (d.toList.take (k + k2)) ∧ (∀ i, k + k2 ≤ i + 1 → e[i]! = d[i]!) ∧ F 0 = .slice (some ⟨bq, 0, none⟩) d.toList.length c ∧ F 3 = .int .i64 (k1 : Int) ∧ F 4 = .slice (some ⟨bq, k, none⟩) (d.size - k) (c - k) ∧ F 5 = .int .i64 (k2 : Int) ∧ D' = [] ∧ [(bq, .row (ic e []) 2 kq)] :: L = L') ⟨_, ⟨k, 1, d, rfl, rfl, by omega, by omega, by omega, by rw [hct, if_pos hc2.symm, hck], fun _ _ => rfl, rfl, rfl, rfl, rfl, rfl, rfl⟩⟩ ?_
        rintro m F D' L' ⟨k1, k2, e, rfl, he, hk3, hk4, hk5, hec, her, h0, h3, h4, h5, rfl, rfl⟩
        refine C.fix (d := 0) h0 ?_
        refine C.fix (d := 3) h3 ?_
        refine C.fix (d := 4) h4 ?_
        refine C.fix (d := 5) h5 ?_
        refine C.seq ?_
        refine C.seq ?_
        refine C.region ?_
        refine G.moveI rfl trivial rfl rfl rfl ?_
        refine G.moveS rfl trivial rfl rfl rfl ?_
        refine G.lenSlice rfl trivial rfl rfl Try.underlying27 rfl ?_
        refine G.bin rfl trivial rfl rfl rfl rfl rfl ?_
        refine G.nil ?_
        refine C.cond _ rfl ?_ ?_
        · intro hc3
          have hlt2 : k + k2 < d.size := by omega
          have hct2 := compact_take (l := d.toList) (j := k + k2) (by omega) (by omega)
          rw [get_toList, get_toList, ← her (k + k2 - 1) (by omega), ← her (k + k2) (by omega)] at hct2
          refine C.skip ?_
          refine C.seq ?_
          refine C.block ?_
          refine C.seq ?_
          refine C.drawn mixed (_) [] (fun _ h => h) ?_
          refine GA.pure (i := 0) (fun _ _ _ _ _ h => h) rfl (by kernel_rfl) trivial rfl rfl (Y.moveS rfl rfl) (#[true, false, false, false, false, false, false, false, false, false]) (by kernel_rfl) ?_
          refine GA.pure (i := 1) (fun _ _ _ _ _ h => h) rfl (by kernel_rfl) trivial rfl rfl (Y.moveI rfl rfl) (#[true, true, false, false, false, false, false, false, false, false]) (by kernel_rfl) ?_
          refine GA.pure (i := 2) (fun _ _ _ _ _ h => h) rfl (by kernel_rfl) trivial rfl rfl (Y.idxO rfl Try.underlying27 I2 rfl rfl (by omega)) (#[true, true, true, false, false, false, false, false, false, false]) (by kernel_rfl) ?_
          refine GA.read (i := 3) (fun _ _ _ _ _ h => h) rfl (by kernel_rfl) (by kernel_rfl) trivial rfl rfl (Y.ldI .here rfl Try.underlying2 rfl rfl (by omega)) (#[true, true, true, true, false, false, false, false, false, false]) (by kernel_rfl) ?_
          refine GA.pure (i := 4) (fun _ _ _ _ _ h => h) rfl (by kernel_rfl) trivial rfl rfl (Y.moveS rfl rfl) (#[true, true, true, true, true, false, false, false, false, false]) (by kernel_rfl) ?_
          refine GA.pure (i := 5) (fun _ _ _ _ _ h => h) rfl (by kernel_rfl) trivial rfl rfl (Y.moveI rfl rfl) (#[true, true, true, true, true, true, false, false, false, false]) (by kernel_rfl) ?_
          refine GA.pure (i := 6) (fun _ _ _ _ _ h => h) rfl (by kernel_rfl) trivial rfl rfl (Y.subN (j := 1) rfl rfl rfl (by omega)) (#[true, true, true, true, true, true, true, false, false, false]) (by kernel_rfl) ?_
          refine GA.pure (i := 7) (fun _ _ _ _ _ h => h) rfl (by kernel_rfl) trivial rfl rfl (Y.idxO rfl Try.underlying27 I2 rfl rfl (by omega)) (#[true, true, true, true, true, true, true, true, false, false]) (by kernel_rfl) ?_
          refine GA.read (i := 8) (fun _ _ _ _ _ h => h) rfl (by kernel_rfl) (by kernel_rfl) trivial rfl rfl (Y.ldI .here rfl Try.underlying2 rfl rfl (by omega)) (#[true, true, true, true, true, true, true, true, true, false]) (by kernel_rfl) ?_
          refine GA.pure (i := 9) (fun _ _ _ _ _ h => h) rfl (by kernel_rfl) trivial rfl rfl (Y.bin rfl rfl rfl rfl) (#[true, true, true, true, true, true, true, true, true, true]) (by kernel_rfl) ?_
          refine GA.done (by kernel_rfl) ?_
          refine C.cond _ rfl ?_ ?_
          · intro hc4
            refine C.seq ?_
            refine C.region ?_
            refine G.moveS rfl trivial rfl rfl rfl ?_
            refine G.moveI rfl trivial rfl rfl rfl ?_
            refine G.moveS rfl trivial rfl rfl rfl ?_
            refine G.moveI rfl trivial rfl rfl rfl ?_
            refine G.idxO rfl trivial rfl rfl Try.underlying27 I2 rfl rfl (by omega) ?_
            refine G.ldI .here rfl trivial rfl rfl Try.underlying2 rfl rfl (by omega) ?_
            refine G.idxN rfl trivial rfl rfl Try.underlying27 I2 rfl rfl (by omega) ?_
            refine G.stI .here rfl trivial rfl I2 rfl rfl (by first | omega | (simp only [Array.size_setIfInBounds]; omega)) ?_
            refine G.nil ?_
            refine C.region ?_
            refine G.moveI rfl trivial rfl rfl rfl ?_
            refine G.addN (j := 1) rfl trivial rfl rfl rfl rfl (by omega) ?_
            refine G.assignI rfl trivial rfl rfl rfl ?_
            refine G.nil ?_
            refine C.region ?_
            refine G.moveI rfl trivial rfl rfl rfl ?_
            refine G.addN (j := 1) rfl trivial rfl rfl rfl rfl (by omega) ?_
            refine G.assignI rfl trivial rfl rfl rfl ?_
            refine G.nil ?_
            refine ⟨d.size - (k2 + 1) + 0, by omega, k1 + 1, k2 + 1, e.setIfInBounds k1 e[k + k2]!, rfl, by simp [he], by omega, by omega, by omega, ?_, fun i hi => ?_, rfl, rfl, rfl, rfl, rfl, rfl⟩
            · rw [show k + (k2 + 1) = k + k2 + 1 by omega, hct2, if_neg (fun h => hc4 (by rw [show k + (k2 - 1) = k + k2 - 1 by omega]; exact h.symm)), ← hec, Array.toList_setIfInBounds, List.take_succ_eq_append_getElem (by simp; omega)]
              simp [List.take_set_of_le]
            · rw [← her i (by omega)]
              by_cases hib : i < e.size
              · simp [hib, show ¬ k1 = i by omega]
              · simp [hib]
          · intro hc4
            refine C.skip ?_
            refine C.region ?_
            refine G.moveI rfl trivial rfl rfl rfl ?_
            refine G.addN (j := 1) rfl trivial rfl rfl rfl rfl (by omega) ?_
            refine G.assignI rfl trivial rfl rfl rfl ?_
            refine G.nil ?_
            refine ⟨d.size - (k2 + 1) + 0, by omega, k1, k2 + 1, e, rfl, he, by omega, by omega, by omega, ?_, fun i hi => her i (by omega), rfl, rfl, rfl, rfl, rfl, rfl⟩
            rw [show k + (k2 + 1) = k + k2 + 1 by omega, hct2, if_pos (by have h := Classical.not_not.1 hc4; rw [show k + (k2 - 1) = k + k2 - 1 by omega] at h; exact h.symm)]
            exact hec
        · intro hc3
          refine C.exit ?_
          refine C.seq ?_
          refine C.region ?_
          refine G.moveS rfl trivial rfl rfl rfl ?_
          refine G.moveI rfl trivial rfl rfl rfl ?_
          refine G.sliceL rfl trivial rfl rfl Try.underlying27 I2 rfl rfl (by omega) ?_
          refine G.fix (d := 56) (v := .slice (some ⟨bq, k1, none⟩) (d.size - k1) (c - k1)) (by show Value.slice (cutA (some ⟨bq, 0, none⟩) c (k1 : Int).toNat 1) (d.toList.length - (k1 : Int).toNat) (c - (k1 : Int).toNat) = _; unfold cutA; rw [Int.toNat_natCast, if_neg (by omega), hdl]; simp [add_mul_addr]) ?_
          refine G.clear .here rfl trivial rfl Try.underlying27 I2 rfl (fun v hv => by simp [Value.cells] at hv; rcases hv with rfl; rfl) rfl (by rw [ic_length]; simp; omega) ?_
          intro vs hvs
          refine G.nil ?_
          refine C.seq ?_
          refine C.region ?_
          refine G.moveS rfl trivial rfl rfl rfl ?_
          refine G.moveI rfl trivial rfl rfl rfl ?_
          refine G.sliceH rfl trivial rfl rfl Try.underlying27 I2 rfl rfl (by omega) ?_
          refine G.assignS rfl trivial rfl rfl rfl ?_
          refine G.less (L' := [(bq, .row ((e.toList.take k1).map (Value.int .i64)) 2 kq)] :: L) (fun _ h => by have h2 := h.forget .here k1; rw [List.append_assoc, List.take_append_of_le_length (by rw [List.length_take, ic_length]; simp; omega), List.take_take, Nat.min_self] at h2; simpa [ic, List.map_take] using h2) ?_
          refine G.nil ?_
          refine C.ret ?_
          -- end c0Fc1Tc2Tc3F
          have hkn : k + k2 = d.toList.length := by omega
          rw [hkn, List.take_length] at hec
          have hol : k1 = (compactL d.toList).length := by rw [← hec, List.length_take]; simp; omega
          subst hol
          exact ⟨rfl, _, Res.of (rs := [.tmp 2]) rfl rfl, _, _, OwnS.mk (k := kq) (by simp) hq1 (by omega), by rw [hec], rfl⟩
      · intro hc2
        refine C.skip ?_
        refine C.region ?_
        refine G.moveI rfl trivial rfl rfl rfl ?_
        refine G.addN (j := 1) rfl trivial rfl rfl rfl rfl (by omega) ?_
        refine G.assignI rfl trivial rfl rfl rfl ?_
        refine G.nil ?_
        exact ⟨d.size - (k + 1) + 0, by omega, k + 1, rfl, by omega, by omega, by rw [hct, if_neg (fun h => hc2 h.symm), hck, take_snoc (by omega), get_toList], rfl, rfl, rfl, rfl⟩
    · intro hc1
      refine C.exit ?_
      refine C.seq ?_
      refine C.region ?_
      refine G.moveS rfl trivial rfl rfl rfl ?_
      refine G.assignS rfl trivial rfl rfl rfl ?_
      refine G.nil ?_
      refine C.ret ?_
      -- end c0Fc1F
      have hkn : k = d.toList.length := by omega
      rw [hkn, List.take_length] at hck
      exact ⟨rfl, _, Res.of (rs := [.tmp 2]) rfl rfl, _, [(bq, .row (ic d []) 2 kq)], by rw [hck]; exact ⟨by simp, .inr ⟨bq, c, kq, rfl, by simp [ic], hq1, hq2⟩⟩, rfl, rfl⟩
end compact
end Go.Proofs.Ytomiidlbfcfpiaa
