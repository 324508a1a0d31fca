/-
  Locks: those of a transaction struck out; the library's DeleteFunc and Compact walked.
-/
import Derived.Test.YtomiidlbfcfpiaaLo0
namespace Go.Proofs.Ytomiidlbfcfpiaa
open Go Go.SL Go.RowKit

/-- those of the others -/
def others (t : Int) (ls : List One) : List One := ls.filter fun y => !decide (y.1 = t)
theorem others_le (t : Int) (ls : List One) : (others t ls).length ≤ ls.length := List.length_filter_le _ _
theorem others_take {t : Int} {ls : List One} {j : Nat} (h : j < ls.length) : others t (ls.take (j + 1)) = if ls[j].1 = t then others t (ls.take j) else others t (ls.take j) ++ [ls[j]] := by
  unfold others
  rw [List.take_succ_eq_append_getElem h, List.filter_append]
  by_cases e : ls[j].1 = t <;> simp [e]
theorem others_none {t : Int} {ls : List One} (h : ∀ y ∈ ls, y.1 ≠ t) : others t ls = ls := by
  unfold others
  exact List.filter_eq_self.2 fun y hy => by simp [h y hy]
section lock
variable (W0 : World)
theorem free1_spec (L : List Seg) (bt : Nat) (t : Int) (y : One) (u : Nat → SObj → List Seg) (ha : At L bt (.row [.int .i64 t] 2 1) u) :
    FnS Try.prog W0 51 #[oneV y, .pointer (some ⟨bt, 0, none⟩)] L (fun e L' => L' = L ∧ e = .returned (.bool (decide (y.1 = t)))) := by
  refine FnS.of (args := [oneV y, .pointer (some ⟨bt, 0, none⟩)]) Try.func51 rfl rfl ?_
  refine C.seq ?_
  refine C.region ?_
  refine G.boxG rfl trivial rfl rfl rfl ?_
  intro b2
  refine G.assignB rfl trivial rfl rfl rfl ?_
  refine G.nil ?_
  refine C.seq ?_
  refine C.region ?_
  refine G.fieldAddr rfl trivial rfl rfl Try.underlying75 rfl I2 rfl rfl ?_
  refine G.loadAt (v := .int .i64 y.1) .here rfl trivial rfl rfl Try.underlying2 rfl rfl rfl ?_
  refine G.loadAt (.next ha) rfl trivial rfl rfl Try.underlying2 rfl rfl rfl ?_
  refine G.bin rfl trivial rfl rfl rfl rfl rfl ?_
  refine G.assignB rfl trivial rfl rfl rfl ?_
  refine G.nil ?_
  refine C.less (fun _ h => h.tail) ?_
  refine C.ret ?_
  -- end 
  exact ⟨rfl, _, Res.of (rs := [.tmp 3]) rfl rfl, rfl, rfl⟩
theorem indexF_spec (L : List Seg) (v : Value) (ls : List One) (s1 : Seg) (hv : OwnS v ls.length (ls.flatMap oneC) 75 3 s1) (hl : ls.length ≤ 1000) (bt : Nat) (t : Int) :
    FnS Try.prog W0 66 #[v, .func (.func 51) #[] #[.pointer (some ⟨bt, 0, none⟩)]] (s1 :: [(bt, .row [.int .i64 t] 2 1)] :: L)
      (fun e L' => L' = s1 :: [(bt, .row [.int .i64 t] 2 1)] :: L ∧ ∃ r : Int, e = .returned (.int .i64 r) ∧ ((r = -1 ∧ ∀ y ∈ ls, y.1 ≠ t) ∨ ∃ (i : Nat) (h : i < ls.length), r = (i : Int) ∧ ls[i].1 = t ∧ ∀ y ∈ ls.take i, y.1 ≠ t)) := by
  obtain ⟨a, c, rfl, _⟩ := hv.form
  refine FnS.of (args := [.slice a ls.length c, .func (.func 51) #[] #[.pointer (some ⟨bt, 0, none⟩)]]) Try.func66 rfl rfl ?_
  refine C.seq ?_
  refine C.region ?_
  refine G.assignI rfl trivial rfl rfl rfl ?_
  refine G.nil ?_
  refine C.seq ?_
  refine C.seq ?_
  refine C.region ?_
  refine G.moveS rfl trivial rfl rfl rfl ?_
  refine G.lenSlice rfl trivial rfl rfl Try.underlying65 rfl ?_
  refine G.moveI rfl trivial rfl rfl rfl ?_
  refine G.nil ?_
  refine C.block ?_
  refine C.loop (fun m F D' L' => ∃ (i : Nat), m = ls.length - i + 0 ∧ i ≤ ls.length ∧ (∀ y ∈ ls.take i, y.1 ≠ t) ∧ F 0 = .slice a ls.length c ∧ F 1 = .func (.func 51) #[] #[.pointer (some ⟨bt, 0, none⟩)] ∧ F 7 = .int .i64 (ls.length : Int) ∧ F 8 = .int .i64 (i : Int) ∧ D' = [] ∧ s1 :: [(bt, .row [.int .i64 t] 2 1)] :: L = L') ⟨_, ⟨0, rfl, Nat.zero_le _, by simp, rfl, rfl, rfl, rfl, rfl, rfl⟩⟩ ?_
  rintro m F D' L' ⟨i, rfl, hi, hx, h0, h1, h7, h8, rfl, rfl⟩
  refine C.fix (d := 0) h0 ?_
  refine C.fix (d := 1) h1 ?_
  refine C.fix (d := 7) h7 ?_
  refine C.fix (d := 8) h8 ?_
  refine C.seq ?_
  refine C.region ?_
  refine G.bin rfl trivial rfl rfl rfl rfl rfl ?_
  refine G.nil ?_
  refine C.seq ?_
  refine C.cond _ rfl ?_ ?_
  · intro hc0
    have hlt : i < ls.length := by omega
    obtain ⟨bq, cq, kq, hveq, rfl, hq1, hq2⟩ := hv.block (by omega)
    cases hveq
    refine C.skip ?_
    refine C.seq ?_
    refine C.block ?_
    refine C.seq ?_
    refine C.region ?_
    refine G.moveI rfl trivial rfl rfl rfl ?_
    refine G.assignI rfl trivial rfl rfl rfl ?_
    refine G.nil ?_
    refine C.seq ?_
    refine C.region ?_
    refine G.moveF rfl trivial rfl rfl rfl ?_
    refine G.moveS rfl trivial rfl rfl rfl ?_
    refine G.moveI rfl trivial rfl rfl rfl ?_
    refine G.indexAddr rfl trivial rfl rfl Try.underlying65 I75 rfl rfl (by omega) ?_
    refine G.loadAgg (oneC ls[i]) rfl trivial rfl rfl Try.underlying75 rfl I75 rfl rfl (fun w hm => agg_of_row hm .here (by have h := row_chunk (rs := []) (f := oneC) (k := 3) (fun _ _ => rfl) hlt; rw [List.append_nil] at h; exact h)) ?_
    refine G.callV E51 rfl rfl rfl trivial rfl rfl (free1_spec W0 _ bt t ls[i] _ (.next .here)) rfl ?_
    rintro e L2 ⟨rfl, rfl⟩
    refine G.nil ?_
    refine C.cond _ rfl ?_ ?_
    · intro hc1
      refine C.seq ?_
      refine C.region ?_
      refine G.moveI rfl trivial rfl rfl rfl ?_
      refine G.assignI rfl trivial rfl rfl rfl ?_
      refine G.nil ?_
      refine C.ret ?_
      -- end c0Tc1T
      exact ⟨rfl, _, Res.of (rs := [.tmp 4]) rfl rfl, rfl, _, rfl, .inr ⟨i, hlt, rfl, hc1, hx⟩⟩
    · intro hc1
      refine C.skip ?_
      refine C.region ?_
      refine G.addN (j := 1) rfl trivial rfl rfl rfl rfl (by omega) ?_
      refine G.moveI rfl trivial rfl rfl rfl ?_
      refine G.nil ?_
      exact ⟨ls.length - (i + 1) + 0, by omega, i + 1, rfl, by omega, by rw [List.take_succ_eq_append_getElem hlt]; intro y hy; rcases List.mem_append.1 hy with h | h; exact hx y h; rw [List.mem_singleton.1 h]; exact hc1, rfl, rfl, rfl, rfl, rfl, rfl⟩
  · intro hc0
    refine C.exit ?_
    refine C.seq ?_
    refine C.region ?_
    refine G.assignI rfl trivial rfl rfl rfl ?_
    refine G.nil ?_
    refine C.ret ?_
    -- end c0F
    exact ⟨rfl, _, Res.of (rs := [.tmp 4]) rfl rfl, rfl, _, rfl, .inl ⟨rfl, by rwa [List.take_of_length_le (by omega)] at hx⟩⟩
theorem one_put {e : List One} {i : Nat} (hi : i < e.length) (y : One) : (e.flatMap oneC).take (0 + (i : Int).toNat * 3) ++ oneC y ++ (e.flatMap oneC).drop (0 + (i : Int).toNat * 3 + (oneC y).length) = (e.set i y).flatMap oneC := by
  have h := chunk_put (f := oneC) (k := 3) (l := e) (fun _ _ => rfl) (off := 0) (vs := oneC y) (by simp [oneC]) hi (y := y) (by simp [oneC])
  rw [Int.toNat_natCast, Nat.zero_add, Nat.mul_comm i 3]
  simpa using h
theorem one_len (e : List One) : (e.flatMap oneC).length = e.length * 3 := by rw [chunk_length (k := 3) (fun _ _ => rfl), Nat.mul_comm]
theorem one_take (e : List One) (i : Nat) : (e.flatMap oneC).take (i * 3) = (e.take i).flatMap oneC := by
  induction e generalizing i with
  | nil => simp
  | cons x xs ih =>
    cases i with
    | zero => simp
    | succ i =>
      rw [List.flatMap_cons, List.take_succ_cons, List.flatMap_cons, ← ih i, Nat.succ_mul, List.take_append, oneC_len, Nat.add_sub_cancel, List.take_of_length_le (by rw [oneC_len]; omega)]
theorem delete_spec (L : List Seg) (v : Value) (ls : List One) (s1 : Seg) (hv : OwnS v ls.length (ls.flatMap oneC) 75 3 s1) (hl : ls.length ≤ 1000) (bt : Nat) (t : Int) :
    FnS Try.prog W0 50 #[v, .func (.func 51) #[] #[.pointer (some ⟨bt, 0, none⟩)]] (s1 :: [(bt, .row [.int .i64 t] 2 1)] :: L)
      (fun e L' => ∃ v' s1', OwnS v' (others t ls).length ((others t ls).flatMap oneC) 75 3 s1' ∧ L' = s1' :: [(bt, .row [.int .i64 t] 2 1)] :: L ∧ e = .returned v') := by
  obtain ⟨a, c, rfl, _⟩ := hv.form
  refine FnS.of (args := [.slice a ls.length c, .func (.func 51) #[] #[.pointer (some ⟨bt, 0, none⟩)]]) Try.func50 rfl rfl ?_
  refine C.seq ?_
  refine C.region ?_
  refine G.assignS rfl trivial rfl rfl rfl ?_
  refine G.nil ?_
  refine C.seq ?_
  refine C.region ?_
  refine G.moveS rfl trivial rfl rfl rfl ?_
  refine G.moveF rfl trivial rfl rfl rfl ?_
  refine G.call E66 rfl rfl trivial rfl rfl (indexF_spec W0 L _ ls s1 hv hl bt t) rfl ?_
  rintro e L2 ⟨rfl, r, rfl, hr⟩
  refine G.assignI rfl trivial rfl rfl rfl ?_
  refine G.nil ?_
  refine C.seq ?_
  refine C.seq ?_
  refine C.region ?_
  refine G.moveI rfl trivial rfl rfl rfl ?_
  refine G.bin rfl trivial rfl rfl rfl rfl rfl ?_
  refine G.nil ?_
  refine C.cond _ rfl ?_ ?_
  · intro hc0
    refine C.seq ?_
    refine C.region ?_
    refine G.moveS rfl trivial rfl rfl rfl ?_
    refine G.assignS rfl trivial rfl rfl rfl ?_
    refine G.nil ?_
    refine C.ret ?_
    -- end c0T
    have hno := (hr.resolve_right (fun ⟨i, _, h, _⟩ => by omega)).2
    exact ⟨rfl, _, Res.of (rs := [.tmp 4]) rfl rfl, _, s1, by rw [others_none hno]; exact hv, rfl, rfl⟩
  · intro hc0
    obtain ⟨i0, hi0, rfl, hit, hno⟩ := hr.resolve_left (fun h => hc0 h.1)
    obtain ⟨bq, cq, kq, hveq, rfl, hq1, hq2⟩ := hv.block (by omega)
    cases hveq
    refine C.skip ?_
    refine C.seq ?_
    refine C.seq ?_
    refine C.region ?_
    refine G.moveI rfl trivial rfl rfl rfl ?_
    refine G.addN (j := 1) rfl trivial rfl rfl rfl rfl (by omega) ?_
    refine G.assignI rfl trivial rfl rfl rfl ?_
    refine G.nil ?_
    refine C.block ?_
    refine C.loop (fun m F D' L' => ∃ (i j : Nat) (e : List One), m = ls.length - j + 0 ∧ i < j ∧ j ≤ ls.length ∧ e.length = ls.length ∧ e.take i = others t (ls.take j) ∧ (∀ k, j ≤ k → e[k]? = ls[k]?) ∧ F 0 = .slice (some ⟨bq, 0, none⟩) ls.length c ∧ F 1 = .func (.func 51) #[] #[.pointer (some ⟨bt, 0, none⟩)] ∧ F 5 = .int .i64 (i : Int) ∧ F 6 = .int .i64 (j : Int) ∧ D' = [] ∧ [(bq, .row (e.flatMap oneC) 75 kq)] :: [(bt, .row [.int .i64 t] 2 1)] :: L = L') ⟨_, ⟨i0, i0 + 1, ls, rfl, by omega, by omega, rfl, by rw [others_take hi0, if_pos hit, others_none hno], fun _ _ => rfl, rfl, rfl, rfl, rfl, rfl, rfl⟩⟩ ?_
    rintro m F D' L' ⟨i, j, e, rfl, hij, hj, he, hot, hrest, h0, h1, h5, h6, rfl, rfl⟩
    refine C.fix (d := 0) h0 ?_
    refine C.fix (d := 1) h1 ?_
    refine C.fix (d := 5) h5 ?_
    refine C.fix (d := 6) h6 ?_
    refine C.seq ?_
    refine C.seq ?_
    refine C.region ?_
    refine G.moveI rfl trivial rfl rfl rfl ?_
    refine G.moveS rfl trivial rfl rfl rfl ?_
    refine G.lenSlice rfl trivial rfl rfl Try.underlying65 rfl ?_
    refine G.bin rfl trivial rfl rfl rfl rfl rfl ?_
    refine G.nil ?_
    refine C.cond _ rfl ?_ ?_
    · intro hc1
      have hlt : j < ls.length := by omega
      have hlt2 : j < e.length := by omega
      have hej : e[j] = ls[j] := by have h := hrest j (Nat.le_refl _); rw [List.getElem?_eq_getElem hlt, List.getElem?_eq_getElem hlt2] at h; exact Option.some.inj h
      have hsn := others_take (t := t) hlt
      refine C.skip ?_
      refine C.seq ?_
      refine C.block ?_
      refine C.seq ?_
      refine C.region ?_
      refine G.moveS rfl trivial rfl rfl rfl ?_
      refine G.moveI rfl trivial rfl rfl rfl ?_
      refine G.indexAddr rfl trivial rfl rfl Try.underlying65 I75 rfl rfl (by omega) ?_
      refine G.loadAgg (oneC e[j]) rfl trivial rfl rfl Try.underlying75 rfl I75 rfl rfl (fun w hm => agg_of_row hm .here (by have h := row_chunk (rs := []) (f := oneC) (k := 3) (fun _ _ => rfl) hlt2; rw [List.append_nil] at h; exact h)) ?_
      refine G.allocC (cs := [(.int .i64 0), (.int .i64 0), (.string ByteArray.empty)]) rfl trivial rfl rfl I75 rfl ?_
      intro b7
      refine G.stRow (by first | exact .here | exact .next .here | exact .next (.next .here) | exact .next (.next (.next .here)) | exact .next (.next (.next (.next .here))) | exact .next (.next (.next (.next (.next .here)))) | exact .next (.next (.next (.next (.next (.next .here))))) | exact .next (.next (.next (.next (.next (.next (.next .here)))))) | exact .in1 | exact .next .in1 | exact .next (.next .in1) | exact .next (.next (.next .in1)) | exact .next (.next (.next (.next .in1))) | exact .in2 | exact .next .in2 | exact .next (.next .in2) | exact .next (.next (.next .in2)) | exact .next (.next (.next (.next .in2))) | exact .app .here | exact .app (.next .here) | exact .app (.next (.next .here)) | exact .app (.next (.next (.next .here))) | exact .app (.next (.next (.next (.next .here)))) | exact .app (.next (.next (.next (.next (.next .here))))) | exact .app (.next (.next (.next (.next (.next (.next .here)))))) | exact .app (.next (.next (.next (.next (.next (.next (.next .here))))))) | exact .app .in1 | exact .app .in2 | exact .app (.next .in1) | exact .next (.app .in1) | exact .next (.next (.app .in1)) | exact .next (.app .here) | exact .next (.next (.app .here)) | exact .next (.next (.next (.app .here))) | exact .next (.next (.next (.next (.app .here))))) rfl trivial rfl I75 rfl rfl rfl (by rfl) (by first | exact oneC_ok _ | simp [cellsOk]) ?_
      refine G.nil ?_
      refine C.seq ?_
      refine C.region ?_
      refine G.moveF rfl trivial rfl rfl rfl ?_
      refine G.loadRow (by first | exact .here | exact .next .here | exact .next (.next .here) | exact .next (.next (.next .here)) | exact .next (.next (.next (.next .here))) | exact .next (.next (.next (.next (.next .here)))) | exact .next (.next (.next (.next (.next (.next .here))))) | exact .next (.next (.next (.next (.next (.next (.next .here)))))) | exact .in1 | exact .next .in1 | exact .next (.next .in1) | exact .next (.next (.next .in1)) | exact .next (.next (.next (.next .in1))) | exact .in2 | exact .next .in2 | exact .next (.next .in2) | exact .next (.next (.next .in2)) | exact .next (.next (.next (.next .in2))) | exact .app .here | exact .app (.next .here) | exact .app (.next (.next .here)) | exact .app (.next (.next (.next .here))) | exact .app (.next (.next (.next (.next .here)))) | exact .app (.next (.next (.next (.next (.next .here))))) | exact .app (.next (.next (.next (.next (.next (.next .here)))))) | exact .app (.next (.next (.next (.next (.next (.next (.next .here))))))) | exact .app .in1 | exact .app .in2 | exact .app (.next .in1) | exact .next (.app .in1) | exact .next (.next (.app .in1)) | exact .next (.app .here) | exact .next (.next (.app .here)) | exact .next (.next (.next (.app .here))) | exact .next (.next (.next (.next (.app .here))))) rfl trivial rfl rfl Try.underlying75 rfl I75 rfl rfl ?_
      refine G.callV E51 rfl rfl rfl trivial rfl rfl (free1_spec W0 _ bt t e[j] _ (.next (.next .here))) rfl ?_
      rintro e2 L2 ⟨rfl, rfl⟩
      first | refine G.notD rfl trivial rfl rfl rfl ?_ | refine G.not rfl trivial rfl rfl rfl ?_
      refine G.nil ?_
      refine C.cond _ rfl ?_ ?_
      · intro hc2
        refine C.seq ?_
        refine C.region ?_
        refine G.moveS rfl trivial rfl rfl rfl ?_
        refine G.moveI rfl trivial rfl rfl rfl ?_
        refine G.loadRow (by first | exact .here | exact .next .here | exact .next (.next .here) | exact .next (.next (.next .here)) | exact .next (.next (.next (.next .here))) | exact .next (.next (.next (.next (.next .here)))) | exact .next (.next (.next (.next (.next (.next .here))))) | exact .next (.next (.next (.next (.next (.next (.next .here)))))) | exact .in1 | exact .next .in1 | exact .next (.next .in1) | exact .next (.next (.next .in1)) | exact .next (.next (.next (.next .in1))) | exact .in2 | exact .next .in2 | exact .next (.next .in2) | exact .next (.next (.next .in2)) | exact .next (.next (.next (.next .in2))) | exact .app .here | exact .app (.next .here) | exact .app (.next (.next .here)) | exact .app (.next (.next (.next .here))) | exact .app (.next (.next (.next (.next .here)))) | exact .app (.next (.next (.next (.next (.next .here))))) | exact .app (.next (.next (.next (.next (.next (.next .here)))))) | exact .app (.next (.next (.next (.next (.next (.next (.next .here))))))) | exact .app .in1 | exact .app .in2 | exact .app (.next .in1) | exact .next (.app .in1) | exact .next (.next (.app .in1)) | exact .next (.app .here) | exact .next (.next (.app .here)) | exact .next (.next (.next (.app .here))) | exact .next (.next (.next (.next (.app .here))))) rfl trivial rfl rfl Try.underlying75 rfl I75 rfl rfl ?_
        refine G.indexAddr rfl trivial rfl rfl Try.underlying65 I75 rfl rfl (by omega) ?_
        refine G.storeS (vs := oneC e[j]) (.next .here) rfl trivial rfl I75 rfl rfl rfl (oneC_ok _) (by rw [one_len, oneC_len]; omega) ((e.set i e[j]).flatMap oneC) (one_put (by omega) _) ?_
        refine G.nil ?_
        refine C.region ?_
        refine G.moveI rfl trivial rfl rfl rfl ?_
        refine G.addN (j := 1) rfl trivial rfl rfl rfl rfl (by omega) ?_
        refine G.assignI rfl trivial rfl rfl rfl ?_
        refine G.nil ?_
        refine C.region ?_
        refine G.moveI rfl trivial rfl rfl rfl ?_
        refine G.addN (j := 1) rfl trivial rfl rfl rfl rfl (by omega) ?_
        refine G.assignI rfl trivial rfl rfl rfl ?_
        refine G.less (fun _ h => h.tail) ?_
        refine G.nil ?_
        exact ⟨ls.length - (j + 1) + 0, by omega, i + 1, j + 1, e.set i e[j], rfl, by omega, by omega, by simp [he], by rw [hsn, if_neg (by rw [← hej]; exact hc2), ← hot, hej, List.take_succ_eq_append_getElem (by simp; omega)]; simp [List.take_set_of_le], fun k hk => by rw [List.getElem?_set_ne (by omega)]; exact hrest k (by omega), rfl, rfl, rfl, rfl, rfl, rfl⟩
      · intro hc2
        refine C.skip ?_
        refine C.region ?_
        refine G.moveI rfl trivial rfl rfl rfl ?_
        refine G.addN (j := 1) rfl trivial rfl rfl rfl rfl (by omega) ?_
        refine G.assignI rfl trivial rfl rfl rfl ?_
        refine G.less (fun _ h => h.tail) ?_
        refine G.nil ?_
        exact ⟨ls.length - (j + 1) + 0, by omega, i, j + 1, e, rfl, by omega, by omega, he, by rw [hsn, if_pos (by rw [← hej]; exact Classical.not_not.1 hc2)]; exact hot, fun k hk => hrest k (by omega), rfl, rfl, rfl, rfl, rfl, rfl⟩
    · intro hc1
      refine C.exit ?_
      refine C.seq ?_
      refine C.region ?_
      refine G.moveS rfl trivial rfl rfl rfl ?_
      refine G.moveI rfl trivial rfl rfl rfl ?_
      refine G.sliceL rfl trivial rfl rfl Try.underlying65 I75 rfl rfl (by omega) ?_
      refine G.fix (d := 38) (v := .slice (some ⟨bq, i * 3, none⟩) (ls.length - i) (c - i)) (by show Value.slice (cutA (some ⟨bq, 0, none⟩) c (i : Int).toNat 3) (ls.length - (i : Int).toNat) (c - (i : Int).toNat) = _; unfold cutA; rw [Int.toNat_natCast, if_neg (by omega)]; simp [add_mul_addr]) ?_
      refine G.clear .here rfl trivial rfl Try.underlying65 I75 rfl (fun v hv => by simp [Value.cells] at hv; rcases hv with rfl | rfl | rfl <;> rfl) rfl (by rw [one_len, he]; omega) ?_
      intro vs hvs
      refine G.nil ?_
      refine C.seq ?_
      refine C.region ?_
      refine G.moveS rfl trivial rfl rfl rfl ?_
      refine G.moveI rfl trivial rfl rfl rfl ?_
      refine G.sliceH rfl trivial rfl rfl Try.underlying65 I75 rfl rfl (by omega) ?_
      refine G.assignS rfl trivial rfl rfl rfl ?_
      refine G.less (L' := [(bq, .row ((e.take i).flatMap oneC) 75 kq)] :: [(bt, .row [.int .i64 t] 2 1)] :: L) (fun _ h => by have h2 := h.forget .here (i * 3); rw [List.append_assoc, List.take_append_of_le_length (by rw [List.length_take, one_len]; omega), List.take_take, Nat.min_self, one_take] at h2; exact h2) ?_
      refine G.nil ?_
      refine C.ret ?_
      -- end c0Fc1F
      have hjl : j = ls.length := by omega
      subst hjl
      rw [List.take_length] at hot
      have hol : i = (others t ls).length := by rw [← hot, List.length_take]; omega
      subst hol
      refine ⟨rfl, _, Res.of (rs := [.tmp 4]) rfl rfl, _, _, OwnS.mk (k := kq) (by rw [one_len]) hq1 (by omega), by rw [hot], rfl⟩
end lock
end Go.Proofs.Ytomiidlbfcfpiaa
