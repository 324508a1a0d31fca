/-
  Locks: the document's answer, walked on: Free, Lock; two lists compared.
-/
import Derived.Test.YtomiidlbfcfpiaaLo7
namespace Go.Proofs.Ytomiidlbfcfpiaa
open Go Go.SL Go.RowKit Go.Sort

theorem others_not {t : Int} {ls : List One} {j : Nat} (h : j < ls.length) : others t (ls.take (j + 1)) = if ls[j].1 ≠ t then others t (ls.take j) ++ [ls[j]] else others t (ls.take j) := by
  rw [others_take h]
  by_cases e : ls[j].1 = t <;> simp [e]
theorem lockOf_again {t m : Int} {k k1 : ByteArray} {x : One} (h : lockOf t m k = x) (hx : ((t, m, k1) : One) = x) : lockOf t m k1 = x := by
  rw [← hx] at h ⊢
  unfold lockOf at h ⊢
  by_cases e : m = 3
  · rw [if_pos e] at h ⊢; exact h
  · rw [if_neg e]
section ref
variable (W0 : World) (L0 : List Seg) (bw : Nat)
theorem rfree_spec (ls : List One) (s1 s2 : Seg) (h : RfIs bw ls s1 s2) (hl : ls.length ≤ 1000) (t : Int) : FnS Try.prog W0 34 #[.pointer (some ⟨bw, 0, none⟩), .int .i64 t] (s1 :: s2 :: L0) (fun e L' => ∃ s1' s2', RfIs bw (others t ls) s1' s2' ∧ L' = s1' :: s2' :: L0 ∧ e = .returned (.int .i64 ((ls.length - (others t ls).length : Nat) : Int))) := by
  obtain ⟨v, hv, rfl⟩ := h
  obtain ⟨a, c, rfl, _⟩ := hv.form
  have hle := others_le t ls
  refine FnS.of (args := [.pointer (some ⟨bw, 0, none⟩), .int .i64 t]) Try.func34 rfl rfl ?_
  refine C.seq ?_
  refine C.region ?_
  refine G.assignI rfl trivial rfl rfl rfl ?_
  refine G.nil ?_
  refine C.seq ?_
  refine C.region ?_
  refine G.assignS rfl trivial rfl rfl rfl ?_
  refine G.less (fun _ h => h.empty) ?_
  refine G.nil ?_
  refine C.seq ?_
  refine C.seq ?_
  refine C.region ?_
  refine G.assignI rfl trivial rfl rfl rfl ?_
  refine G.nil ?_
  refine C.block ?_
  refine C.loop (fun m F D' L' => ∃ (i : Nat) (ao : Option Addr) (co : Nat) (so : Seg), m = ls.length - i + 0 ∧ i ≤ ls.length ∧ OwnS (.slice ao (others t (ls.take i)).length co) (others t (ls.take i)).length ((others t (ls.take i)).flatMap oneC) 81 3 so ∧ F 0 = .pointer (some ⟨bw, 0, none⟩) ∧ F 1 = .int .i64 t ∧ F 5 = .slice ao (others t (ls.take i)).length co ∧ F 6 = .int .i64 (i : Int) ∧ D' = [] ∧ so :: s1 :: [(bw, .row [.slice a ls.length c] 30 1)] :: L0 = L') ⟨_, ⟨0, none, 0, [], rfl, Nat.zero_le _, OwnS.nil _ _, rfl, rfl, rfl, rfl, rfl, rfl⟩⟩ ?_
  rintro m F D' L' ⟨i, ao, co, so, rfl, hi, hot, h0, h1, h5, h6, rfl, rfl⟩
  refine C.fix (d := 0) h0 ?_
  refine C.fix (d := 1) h1 ?_
  refine C.fix (d := 5) h5 ?_
  refine C.fix (d := 6) h6 ?_
  refine C.seq ?_
  refine C.seq ?_
  refine C.region ?_
  refine G.moveI rfl trivial rfl rfl rfl ?_
  refine G.moveP rfl trivial rfl rfl rfl ?_
  first | refine G.nilCheckP rfl trivial rfl rfl rfl ?_ | refine G.nilCheckF rfl trivial rfl rfl rfl ?_
  refine G.fieldAddr rfl trivial rfl rfl Try.underlying30 rfl I28 rfl rfl ?_
  refine G.loadAt (by first | exact .here | exact .next .here | exact .next (.next .here) | exact .next (.next (.next .here)) | exact .next (.next (.next (.next .here))) | exact .next (.next (.next (.next (.next .here)))) | exact .next (.next (.next (.next (.next (.next .here))))) | exact .next (.next (.next (.next (.next (.next (.next .here)))))) | exact .in1 | exact .next .in1 | exact .next (.next .in1) | exact .next (.next (.next .in1)) | exact .next (.next (.next (.next .in1))) | exact .in2 | exact .next .in2 | exact .next (.next .in2) | exact .next (.next (.next .in2)) | exact .next (.next (.next (.next .in2))) | exact .app .here | exact .app (.next .here) | exact .app (.next (.next .here)) | exact .app (.next (.next (.next .here))) | exact .app (.next (.next (.next (.next .here)))) | exact .app (.next (.next (.next (.next (.next .here))))) | exact .app (.next (.next (.next (.next (.next (.next .here)))))) | exact .app (.next (.next (.next (.next (.next (.next (.next .here))))))) | exact .app .in1 | exact .app .in2 | exact .app (.next .in1) | exact .next (.app .in1) | exact .next (.next (.app .in1)) | exact .next (.app .here) | exact .next (.next (.app .here)) | exact .next (.next (.next (.app .here))) | exact .next (.next (.next (.next (.app .here))))) rfl trivial rfl rfl Try.underlying28 rfl rfl (by rfl) ?_
  refine G.lenSlice rfl trivial rfl rfl Try.underlying28 rfl ?_
  refine G.bin rfl trivial rfl rfl rfl rfl rfl ?_
  refine G.nil ?_
  refine C.cond _ rfl ?_ ?_
  · intro hc0
    have hlt : i < ls.length := by omega
    obtain ⟨bq, cq, kq, hveq, rfl, hq1, hq2⟩ := hv.block (by omega)
    cases hveq
    obtain ⟨o1, o2, o3⟩ := one_at hlt
    have hsn := others_not (t := t) hlt
    have hol := others_le t (ls.take i)
    rw [List.length_take] at hol
    refine C.skip ?_
    refine C.seq ?_
    refine C.block ?_
    refine C.seq ?_
    refine C.region ?_
    refine G.moveP rfl trivial rfl rfl rfl ?_
    first | refine G.nilCheckP rfl trivial rfl rfl rfl ?_ | refine G.nilCheckF rfl trivial rfl rfl rfl ?_
    refine G.fieldAddr rfl trivial rfl rfl Try.underlying30 rfl I28 rfl rfl ?_
    refine G.loadAt (by first | exact .here | exact .next .here | exact .next (.next .here) | exact .next (.next (.next .here)) | exact .next (.next (.next (.next .here))) | exact .next (.next (.next (.next (.next .here)))) | exact .next (.next (.next (.next (.next (.next .here))))) | exact .next (.next (.next (.next (.next (.next (.next .here)))))) | exact .in1 | exact .next .in1 | exact .next (.next .in1) | exact .next (.next (.next .in1)) | exact .next (.next (.next (.next .in1))) | exact .in2 | exact .next .in2 | exact .next (.next .in2) | exact .next (.next (.next .in2)) | exact .next (.next (.next (.next .in2))) | exact .app .here | exact .app (.next .here) | exact .app (.next (.next .here)) | exact .app (.next (.next (.next .here))) | exact .app (.next (.next (.next (.next .here)))) | exact .app (.next (.next (.next (.next (.next .here))))) | exact .app (.next (.next (.next (.next (.next (.next .here)))))) | exact .app (.next (.next (.next (.next (.next (.next (.next .here))))))) | exact .app .in1 | exact .app .in2 | exact .app (.next .in1) | exact .next (.app .in1) | exact .next (.next (.app .in1)) | exact .next (.app .here) | exact .next (.next (.app .here)) | exact .next (.next (.next (.app .here))) | exact .next (.next (.next (.next (.app .here))))) rfl trivial rfl rfl Try.underlying28 rfl rfl (by rfl) ?_
    refine G.moveI rfl trivial rfl rfl rfl ?_
    refine G.indexAddr rfl trivial rfl rfl Try.underlying28 I81 rfl rfl (by omega) ?_
    refine G.fieldAddr rfl trivial rfl rfl Try.underlying81 rfl I2 rfl rfl ?_
    refine G.loadAt (.next .here) rfl trivial rfl rfl Try.underlying2 rfl rfl o1 ?_
    refine G.moveI rfl trivial rfl rfl rfl ?_
    refine G.bin rfl trivial rfl rfl rfl rfl rfl ?_
    refine G.nil ?_
    refine C.cond _ rfl ?_ ?_
    · intro hc1
      refine C.region ?_
      refine G.moveS rfl trivial rfl rfl rfl ?_
      refine G.moveP rfl trivial rfl rfl rfl ?_
      first | refine G.nilCheckP rfl trivial rfl rfl rfl ?_ | refine G.nilCheckF rfl trivial rfl rfl rfl ?_
      refine G.fieldAddr rfl trivial rfl rfl Try.underlying30 rfl I28 rfl rfl ?_
      refine G.loadAt (by first | exact .here | exact .next .here | exact .next (.next .here) | exact .next (.next (.next .here)) | exact .next (.next (.next (.next .here))) | exact .next (.next (.next (.next (.next .here)))) | exact .next (.next (.next (.next (.next (.next .here))))) | exact .next (.next (.next (.next (.next (.next (.next .here)))))) | exact .in1 | exact .next .in1 | exact .next (.next .in1) | exact .next (.next (.next .in1)) | exact .next (.next (.next (.next .in1))) | exact .in2 | exact .next .in2 | exact .next (.next .in2) | exact .next (.next (.next .in2)) | exact .next (.next (.next (.next .in2))) | exact .app .here | exact .app (.next .here) | exact .app (.next (.next .here)) | exact .app (.next (.next (.next .here))) | exact .app (.next (.next (.next (.next .here)))) | exact .app (.next (.next (.next (.next (.next .here))))) | exact .app (.next (.next (.next (.next (.next (.next .here)))))) | exact .app (.next (.next (.next (.next (.next (.next (.next .here))))))) | exact .app .in1 | exact .app .in2 | exact .app (.next .in1) | exact .next (.app .in1) | exact .next (.next (.app .in1)) | exact .next (.app .here) | exact .next (.next (.app .here)) | exact .next (.next (.next (.app .here))) | exact .next (.next (.next (.next (.app .here))))) rfl trivial rfl rfl Try.underlying28 rfl rfl (by rfl) ?_
      refine G.moveI rfl trivial rfl rfl rfl ?_
      refine G.indexAddr rfl trivial rfl rfl Try.underlying28 I81 rfl rfl (by omega) ?_
      refine G.loadAgg (oneC ls[i]) rfl trivial rfl rfl Try.underlying81 rfl I81 rfl rfl (fun w hm => agg_of_row hm (.next .here) (by have h := row_chunk (rs := []) (f := oneC) (k := 3) (fun _ _ => rfl) hlt; rw [List.append_nil] at h; exact h)) ?_
      refine G.buildSliceL (cs := oneC ls[i]) (zs := [(.int .i64 0), (.int .i64 0), (.string ByteArray.empty)]) rfl trivial rfl rfl Try.underlying28 I81 rfl (by kernel_rfl) rfl rfl ?_
      intro b35
      refine G.less (fun _ h => h.perm2) ?_
      refine G.append hot rfl trivial rfl rfl Try.underlying28 Try.underlying28 I81 rfl (by decide) rfl rfl (by decide) (Rd.row0 (.next .here)) rfl (oneC_ok _) (by omega) ?_
      intro v36 s36 hv36
      obtain ⟨a36, c36, rfl, _⟩ := hv36.form
      refine G.assignS rfl trivial rfl rfl rfl ?_
      refine G.nil ?_
      refine C.region ?_
      refine G.moveI rfl trivial rfl rfl rfl ?_
      refine G.addN (j := 1) rfl trivial rfl rfl rfl rfl (by omega) ?_
      refine G.assignI rfl trivial rfl rfl rfl ?_
      refine G.less (fun _ h => h.skip1) ?_
      refine G.nil ?_
      have e1 : others t (ls.take (i + 1)) = others t (ls.take i) ++ [ls[i]] := by rw [hsn, if_pos hc1]
      exact ⟨ls.length - (i + 1) + 0, by omega, i + 1, a36, c36, s36, rfl, by omega, by rw [e1, List.length_append, List.flatMap_append]; simpa using hv36, rfl, rfl, by rw [e1, List.length_append]; rfl, rfl, rfl, rfl⟩
    · intro hc1
      refine C.skip ?_
      refine C.region ?_
      refine G.moveI rfl trivial rfl rfl rfl ?_
      refine G.addN (j := 1) rfl trivial rfl rfl rfl rfl (by omega) ?_
      refine G.assignI rfl trivial rfl rfl rfl ?_
      refine G.nil ?_
      have e1 : others t (ls.take (i + 1)) = others t (ls.take i) := by rw [hsn, if_neg hc1]
      exact ⟨ls.length - (i + 1) + 0, by omega, i + 1, ao, co, so, rfl, by omega, by rw [e1]; exact hot, rfl, rfl, by rw [e1]; rfl, rfl, rfl, rfl⟩
  · intro hc0
    rw [List.take_of_length_le (show ls.length ≤ i by omega)] at hot h5 ⊢
    refine C.exit ?_
    refine C.seq ?_
    refine C.region ?_
    refine G.moveP rfl trivial rfl rfl rfl ?_
    first | refine G.nilCheckP rfl trivial rfl rfl rfl ?_ | refine G.nilCheckF rfl trivial rfl rfl rfl ?_
    refine G.fieldAddr rfl trivial rfl rfl Try.underlying30 rfl I28 rfl rfl ?_
    refine G.loadAt (by first | exact .here | exact .next .here | exact .next (.next .here) | exact .next (.next (.next .here)) | exact .next (.next (.next (.next .here))) | exact .next (.next (.next (.next (.next .here)))) | exact .next (.next (.next (.next (.next (.next .here))))) | exact .next (.next (.next (.next (.next (.next (.next .here)))))) | exact .in1 | exact .next .in1 | exact .next (.next .in1) | exact .next (.next (.next .in1)) | exact .next (.next (.next (.next .in1))) | exact .in2 | exact .next .in2 | exact .next (.next .in2) | exact .next (.next (.next .in2)) | exact .next (.next (.next (.next .in2))) | exact .app .here | exact .app (.next .here) | exact .app (.next (.next .here)) | exact .app (.next (.next (.next .here))) | exact .app (.next (.next (.next (.next .here)))) | exact .app (.next (.next (.next (.next (.next .here))))) | exact .app (.next (.next (.next (.next (.next (.next .here)))))) | exact .app (.next (.next (.next (.next (.next (.next (.next .here))))))) | exact .app .in1 | exact .app .in2 | exact .app (.next .in1) | exact .next (.app .in1) | exact .next (.next (.app .in1)) | exact .next (.app .here) | exact .next (.next (.app .here)) | exact .next (.next (.next (.app .here))) | exact .next (.next (.next (.next (.app .here))))) rfl trivial rfl rfl Try.underlying28 rfl rfl (by rfl) ?_
    refine G.lenSlice rfl trivial rfl rfl Try.underlying28 rfl ?_
    refine G.moveS rfl trivial rfl rfl rfl ?_
    refine G.lenSlice rfl trivial rfl rfl Try.underlying28 rfl ?_
    refine G.subN rfl trivial rfl rfl rfl rfl (by omega) ?_
    refine G.assignI rfl trivial rfl rfl rfl ?_
    refine G.nil ?_
    refine C.seq ?_
    refine C.region ?_
    refine G.moveP rfl trivial rfl rfl rfl ?_
    refine G.moveS rfl trivial rfl rfl rfl ?_
    first | refine G.nilCheckP rfl trivial rfl rfl rfl ?_ | refine G.nilCheckF rfl trivial rfl rfl rfl ?_
    refine G.fieldAddr rfl trivial rfl rfl Try.underlying30 rfl I28 rfl rfl ?_
    refine G.store (v := .slice _ _ _) (by first | exact .here | exact .next .here | exact .next (.next .here) | exact .next (.next (.next .here)) | exact .next (.next (.next (.next .here))) | exact .next (.next (.next (.next (.next .here)))) | exact .next (.next (.next (.next (.next (.next .here))))) | exact .next (.next (.next (.next (.next (.next (.next .here)))))) | exact .in1 | exact .next .in1 | exact .next (.next .in1) | exact .next (.next (.next .in1)) | exact .next (.next (.next (.next .in1))) | exact .in2 | exact .next .in2 | exact .next (.next .in2) | exact .next (.next (.next .in2)) | exact .next (.next (.next (.next .in2))) | exact .app .here | exact .app (.next .here) | exact .app (.next (.next .here)) | exact .app (.next (.next (.next .here))) | exact .app (.next (.next (.next (.next .here)))) | exact .app (.next (.next (.next (.next (.next .here))))) | exact .app (.next (.next (.next (.next (.next (.next .here)))))) | exact .app (.next (.next (.next (.next (.next (.next (.next .here))))))) | exact .app .in1 | exact .app .in2 | exact .app (.next .in1) | exact .next (.app .in1) | exact .next (.next (.app .in1)) | exact .next (.app .here) | exact .next (.next (.app .here)) | exact .next (.next (.next (.app .here))) | exact .next (.next (.next (.next (.app .here))))) rfl trivial rfl I28 rfl rfl rfl (by first | decide | (simp; done) | (simp; omega)) _ (by first | (simp only [List.set_cons_succ, List.set_cons_zero]; done) | (simp only [List.set_cons_succ, List.set_cons_zero]; exact rfl) | exact rfl) ?_
    refine G.nil ?_
    refine C.seq ?_
    refine C.region ?_
    refine G.moveI rfl trivial rfl rfl rfl ?_
    refine G.assignI rfl trivial rfl rfl rfl ?_
    refine G.nil ?_
    refine C.less (fun _ h => h.skip1) ?_
    refine C.ret ?_
    -- end c0F
    exact ⟨rfl, _, Res.of (rs := [.tmp 4]) rfl rfl, _, _, ⟨_, hot, rfl⟩, rfl, rfl⟩
theorem rlock_form (L : List Seg) (p : Option Addr) (t mo : Int) (k : ByteArray) (hm : ¬ (1 ≤ mo ∧ mo ≤ 3)) : FnS Try.prog W0 28 #[.pointer p, .int .i64 t, .int .i64 mo, .string k] L (fun e L' => L' = L ∧ e = .returned (.tuple #[.slice none 0 0, .bool false])) := by
  refine FnS.of (args := [.pointer p, .int .i64 t, .int .i64 mo, .string k]) Try.func28 rfl rfl ?_
  refine C.seq ?_
  refine C.region ?_
  refine G.assignS rfl trivial rfl rfl rfl ?_
  refine G.assignB rfl trivial rfl rfl rfl ?_
  refine G.nil ?_
  refine C.seq ?_
  refine C.seq ?_
  refine C.region ?_
  refine G.moveI rfl trivial rfl rfl rfl ?_
  refine G.bin rfl trivial rfl rfl rfl rfl rfl ?_
  refine G.moveB rfl trivial rfl rfl rfl ?_
  refine G.fork (t := 15) _ rfl ?_ ?_
  · intro hg15
    refine G.skip rfl rfl rfl rfl rfl rfl ?_
    refine G.skip rfl rfl rfl rfl rfl rfl ?_
    first | refine G.pickT rfl trivial rfl rfl rfl rfl ?_ | refine G.pickF rfl trivial rfl rfl rfl rfl ?_
    refine G.nil ?_
    refine C.condT rfl ?_
    refine C.seq ?_
    refine C.region ?_
    refine G.assignS rfl trivial rfl rfl rfl ?_
    refine G.assignB rfl trivial rfl rfl rfl ?_
    refine G.nil ?_
    refine C.ret ?_
    -- end g15T
    exact ⟨rfl, _, Res.of (rs := [.tmp 8, .tmp 9]) rfl rfl, rfl, rfl⟩
  · intro hg15
    refine G.moveI rfl ⟨_, rfl, rfl, rfl⟩ rfl rfl rfl ?_
    refine G.bin rfl ⟨_, rfl, rfl, rfl⟩ rfl rfl rfl rfl rfl ?_
    first | refine G.pickT rfl trivial rfl rfl rfl rfl ?_ | refine G.pickF rfl trivial rfl rfl rfl rfl ?_
    refine G.nil ?_
    refine C.yes rfl (by omega) ?_
    refine C.seq ?_
    refine C.region ?_
    refine G.assignS rfl trivial rfl rfl rfl ?_
    refine G.assignB rfl trivial rfl rfl rfl ?_
    refine G.nil ?_
    refine C.ret ?_
    -- end g15F
    exact ⟨rfl, _, Res.of (rs := [.tmp 8, .tmp 9]) rfl rfl, rfl, rfl⟩
/-- modes as they may be -/
def Modes (ls : List One) : Prop := ∀ y ∈ ls, 1 ≤ y.2.1 ∧ y.2.1 ≤ 3
theorem rlock_spec (ls : List One) (s1 s2 : Seg) (h : RfIs bw ls s1 s2) (hl : ls.length ≤ 900) (hms : Modes ls) (t mo : Int) (k : ByteArray) (hm : 1 ≤ mo ∧ mo ≤ 3) : FnS Try.prog W0 28 #[.pointer (some ⟨bw, 0, none⟩), .int .i64 t, .int .i64 mo, .string k] (s1 :: s2 :: L0)
    (fun e L' => ∃ v sv s1' s2', RfIs bw (locked (lockOf t mo k) ls) s1' s2' ∧ OwnS v (insAll (onL (lockOf t mo k) ls)).length ((insAll (onL (lockOf t mo k) ls)).map (Value.int .i64)) 2 1 sv ∧ L' = sv :: s1' :: s2' :: L0 ∧ e = .returned (.tuple #[v, .bool (decide (onL (lockOf t mo k) ls = []))])) := by
  obtain ⟨v, hv, rfl⟩ := h
  obtain ⟨a, c, rfl, _⟩ := hv.form
  have hxm : 1 ≤ (lockOf t mo k).2.1 ∧ (lockOf t mo k).2.1 ≤ 3 := hm
  generalize hx : lockOf t mo k = x at hxm ⊢
  refine FnS.of (args := [.pointer (some ⟨bw, 0, none⟩), .int .i64 t, .int .i64 mo, .string k]) Try.func28 rfl rfl ?_
  refine C.seq ?_
  refine C.region ?_
  refine G.assignS rfl trivial rfl rfl rfl ?_
  refine G.assignB rfl trivial rfl rfl rfl ?_
  refine G.nil ?_
  refine C.seq ?_
  refine C.seq ?_
  refine C.region ?_
  refine G.moveI rfl trivial rfl rfl rfl ?_
  refine G.bin rfl trivial rfl rfl rfl rfl rfl ?_
  refine G.moveB rfl trivial rfl rfl rfl ?_
  refine G.no (t := 15) rfl (by omega) ?_
  refine G.moveI rfl ⟨_, rfl, rfl, rfl⟩ rfl rfl rfl ?_
  refine G.bin rfl ⟨_, rfl, rfl, rfl⟩ rfl rfl rfl rfl rfl ?_
  first | refine G.pickT rfl trivial rfl rfl rfl rfl ?_ | refine G.pickF rfl trivial rfl rfl rfl rfl ?_
  refine G.nil ?_
  refine C.no rfl (by omega) ?_
  refine C.skip ?_
  refine C.cut (fun F D' L' => ∃ k1 : ByteArray, (t, mo, k1) = x ∧ F 0 = .pointer (some ⟨bw, 0, none⟩) ∧ F 1 = .int .i64 t ∧ F 2 = .int .i64 mo ∧ F 3 = .string k1 ∧ D' = [] ∧ s1 :: [(bw, .row [.slice a ls.length c] 30 1)] :: L0 = L') ?_ ?_
  ·
    refine C.seq ?_
    refine C.region ?_
    refine G.moveI rfl trivial rfl rfl rfl ?_
    refine G.bin rfl trivial rfl rfl rfl rfl rfl ?_
    refine G.nil ?_
    refine C.cond _ rfl ?_ ?_
    · intro hc1
      refine C.region ?_
      refine G.assignT rfl trivial rfl rfl rfl ?_
      refine G.nil ?_
      exact ⟨ByteArray.empty, by rw [← hx]; unfold lockOf; rw [if_pos hc1], rfl, rfl, rfl, rfl, rfl, rfl⟩
    · intro hc1
      refine C.skip ?_
      exact ⟨k, by rw [← hx]; unfold lockOf; rw [if_neg hc1], rfl, rfl, rfl, rfl, rfl, rfl⟩
  ·
    rintro F D' L' ⟨k1, rfl, h0, h1, h2, h3, rfl, rfl⟩
    refine C.fix (d := 0) h0 ?_
    refine C.fix (d := 1) h1 ?_
    refine C.fix (d := 2) h2 ?_
    refine C.fix (d := 3) h3 ?_
    refine C.seq ?_
    refine C.region ?_
    refine G.moveI rfl trivial rfl rfl rfl ?_
    refine G.moveI rfl trivial rfl rfl rfl ?_
    refine G.moveT rfl trivial rfl rfl rfl ?_
    refine G.buildL (cs := oneC (t, mo, k1)) rfl trivial rfl rfl Try.underlying81 I81 B81 rfl rfl ?_
    refine G.allocC (cs := [(.int .i64 0), (.int .i64 0), (.string ByteArray.empty)]) rfl trivial rfl rfl I81 rfl ?_
    intro b10
    refine G.stRow (by first | exact .here | exact .next .here | exact .next (.next .here) | exact .next (.next (.next .here)) | exact .next (.next (.next (.next .here))) | exact .next (.next (.next (.next (.next .here)))) | exact .next (.next (.next (.next (.next (.next .here))))) | exact .next (.next (.next (.next (.next (.next (.next .here)))))) | exact .in1 | exact .next .in1 | exact .next (.next .in1) | exact .next (.next (.next .in1)) | exact .next (.next (.next (.next .in1))) | exact .in2 | exact .next .in2 | exact .next (.next .in2) | exact .next (.next (.next .in2)) | exact .next (.next (.next (.next .in2))) | exact .app .here | exact .app (.next .here) | exact .app (.next (.next .here)) | exact .app (.next (.next (.next .here))) | exact .app (.next (.next (.next (.next .here)))) | exact .app (.next (.next (.next (.next (.next .here))))) | exact .app (.next (.next (.next (.next (.next (.next .here)))))) | exact .app (.next (.next (.next (.next (.next (.next (.next .here))))))) | exact .app .in1 | exact .app .in2 | exact .app (.next .in1) | exact .next (.app .in1) | exact .next (.next (.app .in1)) | exact .next (.app .here) | exact .next (.next (.app .here)) | exact .next (.next (.next (.app .here))) | exact .next (.next (.next (.next (.app .here))))) rfl trivial rfl I81 rfl rfl rfl (by rfl) (by first | exact oneC_ok _ | simp [cellsOk]) ?_
    refine G.nil ?_
    refine C.seq ?_
    refine C.region ?_
    refine G.assignS rfl trivial rfl rfl rfl ?_
    refine G.less (fun _ h => h.empty) ?_
    generalize hxx : ((t, mo, k1) : One) = x at hx hxm ⊢
    refine G.nil ?_
    refine C.seq ?_
    refine C.seq ?_
    refine C.region ?_
    refine G.assignI rfl trivial rfl rfl rfl ?_
    refine G.nil ?_
    refine C.block ?_
    refine C.loop (fun m F D' L' => ∃ (i : Nat) (ao : Option Addr) (co : Nat) (so : Seg), m = ls.length - i + 0 ∧ i ≤ ls.length ∧ OwnS (.slice ao (insAll (onL x (ls.take i))).length co) (insAll (onL x (ls.take i))).length ((insAll (onL x (ls.take i))).map (Value.int .i64)) 2 1 so ∧ F 0 = .pointer (some ⟨bw, 0, none⟩) ∧ F 1 = .int .i64 t ∧ F 2 = .int .i64 mo ∧ F 3 = .string k1 ∧ F 10 = .pointer (some ⟨b10, 0, none⟩) ∧ F 11 = .slice ao (insAll (onL x (ls.take i))).length co ∧ F 12 = .int .i64 (i : Int) ∧ D' = [] ∧ so :: [(b10, .row (oneC x) 81 3)] :: s1 :: [(bw, .row [.slice a ls.length c] 30 1)] :: L0 = L') ⟨_, ⟨0, none, 0, [], rfl, Nat.zero_le _, OwnS.nil _ _, rfl, rfl, rfl, rfl, rfl, rfl, rfl, rfl, by rw [← hxx]; rfl⟩⟩ ?_
    rintro m F D' L' ⟨i, ao, co, so, rfl, hi, hon, h0, h1, h2, h3, h10, h11, h12, rfl, rfl⟩
    refine C.fix (d := 0) h0 ?_
    refine C.fix (d := 1) h1 ?_
    refine C.fix (d := 2) h2 ?_
    refine C.fix (d := 3) h3 ?_
    refine C.fix (d := 10) h10 ?_
    refine C.fix (d := 11) h11 ?_
    refine C.fix (d := 12) h12 ?_
    refine C.seq ?_
    refine C.seq ?_
    refine C.region ?_
    refine G.moveI rfl trivial rfl rfl rfl ?_
    refine G.moveP rfl trivial rfl rfl rfl ?_
    first | refine G.nilCheckP rfl trivial rfl rfl rfl ?_ | refine G.nilCheckF rfl trivial rfl rfl rfl ?_
    refine G.fieldAddr rfl trivial rfl rfl Try.underlying30 rfl I28 rfl rfl ?_
    refine G.loadAt (by first | exact .here | exact .next .here | exact .next (.next .here) | exact .next (.next (.next .here)) | exact .next (.next (.next (.next .here))) | exact .next (.next (.next (.next (.next .here)))) | exact .next (.next (.next (.next (.next (.next .here))))) | exact .next (.next (.next (.next (.next (.next (.next .here)))))) | exact .in1 | exact .next .in1 | exact .next (.next .in1) | exact .next (.next (.next .in1)) | exact .next (.next (.next (.next .in1))) | exact .in2 | exact .next .in2 | exact .next (.next .in2) | exact .next (.next (.next .in2)) | exact .next (.next (.next (.next .in2))) | exact .app .here | exact .app (.next .here) | exact .app (.next (.next .here)) | exact .app (.next (.next (.next .here))) | exact .app (.next (.next (.next (.next .here)))) | exact .app (.next (.next (.next (.next (.next .here))))) | exact .app (.next (.next (.next (.next (.next (.next .here)))))) | exact .app (.next (.next (.next (.next (.next (.next (.next .here))))))) | exact .app .in1 | exact .app .in2 | exact .app (.next .in1) | exact .next (.app .in1) | exact .next (.next (.app .in1)) | exact .next (.app .here) | exact .next (.next (.app .here)) | exact .next (.next (.next (.app .here))) | exact .next (.next (.next (.next (.app .here))))) rfl trivial rfl rfl Try.underlying28 rfl rfl (by rfl) ?_
    refine G.lenSlice rfl trivial rfl rfl Try.underlying28 rfl ?_
    refine G.bin rfl trivial rfl rfl rfl rfl rfl ?_
    refine G.nil ?_
    refine C.cond _ rfl ?_ ?_
    · intro hc2
      have hlt : i < ls.length := by omega
      obtain ⟨bq, cq, kq, hveq, rfl, hq1, hq2⟩ := hv.block (by omega)
      cases hveq
      obtain ⟨o1, _, _⟩ := one_at hlt
      have hot := onL_take (x := x) hlt
      have hol := onL_le x (ls.take i)
      rw [List.length_take] at hol
      have hal := insAll_length _ (onL x (ls.take i)) rfl
      refine C.skip ?_
      refine C.seq ?_
      refine C.block ?_
      refine C.seq ?_
      refine C.drawn mixed (_) [] (fun _ h => h) ?_
      refine GA.read (i := 0) (fun _ _ _ _ _ h => h) rfl (by kernel_rfl) (by kernel_rfl) trivial rfl rfl (Y.loadRow (by first | exact .here | exact .next .here | exact .next (.next .here) | exact .next (.next (.next .here)) | exact .next (.next (.next (.next .here))) | exact .next (.next (.next (.next (.next .here)))) | exact .next (.next (.next (.next (.next (.next .here))))) | exact .next (.next (.next (.next (.next (.next (.next .here)))))) | exact .in1 | exact .next .in1 | exact .next (.next .in1) | exact .next (.next (.next .in1)) | exact .next (.next (.next (.next .in1))) | exact .in2 | exact .next .in2 | exact .next (.next .in2) | exact .next (.next (.next .in2)) | exact .next (.next (.next (.next .in2))) | exact .app .here | exact .app (.next .here) | exact .app (.next (.next .here)) | exact .app (.next (.next (.next .here))) | exact .app (.next (.next (.next (.next .here)))) | exact .app (.next (.next (.next (.next (.next .here))))) | exact .app (.next (.next (.next (.next (.next (.next .here)))))) | exact .app (.next (.next (.next (.next (.next (.next (.next .here))))))) | exact .app .in1 | exact .app .in2 | exact .app (.next .in1) | exact .next (.app .in1) | exact .next (.next (.app .in1)) | exact .next (.app .here) | exact .next (.next (.app .here)) | exact .next (.next (.next (.app .here))) | exact .next (.next (.next (.next (.app .here))))) rfl Try.underlying81 rfl I81 rfl rfl) (#[true, false, false, false, false, false, false, false, false]) (by kernel_rfl) ?_
      refine GA.pure (i := 1) (fun _ _ _ _ _ h => h) rfl (by kernel_rfl) trivial rfl rfl (Y.moveP rfl rfl) (#[true, true, false, false, false, false, false, false, false]) (by kernel_rfl) ?_
      first | refine GA.pure (i := 2) (fun _ _ _ _ _ h => h) rfl (by kernel_rfl) trivial rfl rfl (Y.nilCheckP rfl rfl) (#[true, true, true, false, false, false, false, false, false]) (by kernel_rfl) ?_ | refine GA.pure (i := 2) (fun _ _ _ _ _ h => h) rfl (by kernel_rfl) trivial rfl rfl (Y.nilCheckF rfl rfl) (#[true, true, true, false, false, false, false, false, false]) (by kernel_rfl) ?_
      refine GA.pure (i := 3) (fun _ _ _ _ _ h => h) rfl (by kernel_rfl) trivial rfl rfl (Y.fieldAddr rfl Try.underlying30 rfl I28 rfl rfl) (#[true, true, true, true, false, false, false, false, false]) (by kernel_rfl) ?_
      refine GA.read (i := 4) (fun _ _ _ _ _ h => h) rfl (by kernel_rfl) (by kernel_rfl) trivial rfl rfl (Y.loadAt (by first | exact .here | exact .next .here | exact .next (.next .here) | exact .next (.next (.next .here)) | exact .next (.next (.next (.next .here))) | exact .next (.next (.next (.next (.next .here)))) | exact .next (.next (.next (.next (.next (.next .here))))) | exact .next (.next (.next (.next (.next (.next (.next .here)))))) | exact .in1 | exact .next .in1 | exact .next (.next .in1) | exact .next (.next (.next .in1)) | exact .next (.next (.next (.next .in1))) | exact .in2 | exact .next .in2 | exact .next (.next .in2) | exact .next (.next (.next .in2)) | exact .next (.next (.next (.next .in2))) | exact .app .here | exact .app (.next .here) | exact .app (.next (.next .here)) | exact .app (.next (.next (.next .here))) | exact .app (.next (.next (.next (.next .here)))) | exact .app (.next (.next (.next (.next (.next .here))))) | exact .app (.next (.next (.next (.next (.next (.next .here)))))) | exact .app (.next (.next (.next (.next (.next (.next (.next .here))))))) | exact .app .in1 | exact .app .in2 | exact .app (.next .in1) | exact .next (.app .in1) | exact .next (.next (.app .in1)) | exact .next (.app .here) | exact .next (.next (.app .here)) | exact .next (.next (.next (.app .here))) | exact .next (.next (.next (.next (.app .here))))) rfl Try.underlying28 rfl rfl (by rfl)) (#[true, true, true, true, true, false, false, false, false]) (by kernel_rfl) ?_
      refine GA.pure (i := 5) (fun _ _ _ _ _ h => h) rfl (by kernel_rfl) trivial rfl rfl (Y.moveI rfl rfl) (#[true, true, true, true, true, true, false, false, false]) (by kernel_rfl) ?_
      refine GA.pure (i := 6) (fun _ _ _ _ _ h => h) rfl (by kernel_rfl) trivial rfl rfl (Y.indexAddr rfl Try.underlying28 I81 rfl rfl (by omega)) (#[true, true, true, true, true, true, true, false, false]) (by kernel_rfl) ?_
      refine GA.read (i := 7) (fun _ _ _ _ _ h => h) rfl (by kernel_rfl) (by kernel_rfl) trivial rfl rfl (Y.loadAgg (oneC ls[i]) rfl Try.underlying81 rfl I81 rfl rfl (fun w hm => agg_of_row hm (.next (.next .here)) (by have h := row_chunk (rs := []) (f := oneC) (k := 3) (fun _ _ => rfl) hlt; rw [List.append_nil] at h; exact h))) (#[true, true, true, true, true, true, true, true, false]) (by kernel_rfl) ?_
      refine GA.one (i := 8) rfl (by kernel_rfl) (#[true, true, true, true, true, true, true, true, true]) (by kernel_rfl) ?_
      refine G.call E45 rfl rfl trivial rfl rfl (ragainst_spec W0 _ x ls[i] hxm (hms _ (List.getElem_mem hlt))) rfl ?_
      rintro e L2 ⟨rfl, rfl⟩
      refine G.nil ?_
      refine ⟨fun _ _ h => h, ?_⟩
      refine GA.done (by kernel_rfl) ?_
      refine C.condB _ rfl ?_ ?_
      · intro hc3
        refine C.region ?_
        refine G.moveS rfl trivial rfl rfl rfl ?_
        refine G.moveP rfl trivial rfl rfl rfl ?_
        first | refine G.nilCheckP rfl trivial rfl rfl rfl ?_ | refine G.nilCheckF rfl trivial rfl rfl rfl ?_
        refine G.fieldAddr rfl trivial rfl rfl Try.underlying30 rfl I28 rfl rfl ?_
        refine G.loadAt (by first | exact .here | exact .next .here | exact .next (.next .here) | exact .next (.next (.next .here)) | exact .next (.next (.next (.next .here))) | exact .next (.next (.next (.next (.next .here)))) | exact .next (.next (.next (.next (.next (.next .here))))) | exact .next (.next (.next (.next (.next (.next (.next .here)))))) | exact .in1 | exact .next .in1 | exact .next (.next .in1) | exact .next (.next (.next .in1)) | exact .next (.next (.next (.next .in1))) | exact .in2 | exact .next .in2 | exact .next (.next .in2) | exact .next (.next (.next .in2)) | exact .next (.next (.next (.next .in2))) | exact .app .here | exact .app (.next .here) | exact .app (.next (.next .here)) | exact .app (.next (.next (.next .here))) | exact .app (.next (.next (.next (.next .here)))) | exact .app (.next (.next (.next (.next (.next .here))))) | exact .app (.next (.next (.next (.next (.next (.next .here)))))) | exact .app (.next (.next (.next (.next (.next (.next (.next .here))))))) | exact .app .in1 | exact .app .in2 | exact .app (.next .in1) | exact .next (.app .in1) | exact .next (.next (.app .in1)) | exact .next (.app .here) | exact .next (.next (.app .here)) | exact .next (.next (.next (.app .here))) | exact .next (.next (.next (.next (.app .here))))) rfl trivial rfl rfl Try.underlying28 rfl rfl (by rfl) ?_
        refine G.moveI rfl trivial rfl rfl rfl ?_
        refine G.indexAddr rfl trivial rfl rfl Try.underlying28 I81 rfl rfl (by omega) ?_
        refine G.fieldAddr rfl trivial rfl rfl Try.underlying81 rfl I2 rfl rfl ?_
        refine G.loadAt (.next (.next .here)) rfl trivial rfl rfl Try.underlying2 rfl rfl o1 ?_
        refine G.call E25 rfl rfl trivial rfl rfl (insert_spec W0 _ _ (insAll (onL x (ls.take i))) so hon (by omega) ls[i].1) rfl ?_
        rintro e L2 ⟨v52, s52, hv52, rfl, rfl⟩
        obtain ⟨a52, c52, rfl, _⟩ := hv52.form
        refine G.assignS rfl trivial rfl rfl rfl ?_
        refine G.nil ?_
        refine C.region ?_
        refine G.moveI rfl trivial rfl rfl rfl ?_
        refine G.addN (j := 1) rfl trivial rfl rfl rfl rfl (by omega) ?_
        refine G.assignI rfl trivial rfl rfl rfl ?_
        refine G.nil ?_
        have e1 : insAll (onL x (ls.take (i + 1))) = insL (insAll (onL x (ls.take i))) ls[i].1 := by rw [hot, if_pos hc3, insAll_snoc]
        exact ⟨ls.length - (i + 1) + 0, by omega, i + 1, a52, c52, s52, rfl, by omega, by rw [e1]; exact hv52, rfl, rfl, rfl, rfl, rfl, by rw [e1]; rfl, rfl, rfl, rfl⟩
      · intro hc3
        refine C.skip ?_
        refine C.region ?_
        refine G.moveI rfl trivial rfl rfl rfl ?_
        refine G.addN (j := 1) rfl trivial rfl rfl rfl rfl (by omega) ?_
        refine G.assignI rfl trivial rfl rfl rfl ?_
        refine G.nil ?_
        have e1 : onL x (ls.take (i + 1)) = onL x (ls.take i) := by rw [hot, if_neg (by rw [hc3]; decide)]
        exact ⟨ls.length - (i + 1) + 0, by omega, i + 1, ao, co, so, rfl, by omega, by rw [e1]; exact hon, rfl, rfl, rfl, rfl, rfl, by rw [e1]; rfl, rfl, rfl, rfl⟩
    · intro hc2
      rw [List.take_of_length_le (show ls.length ≤ i by omega)] at hon h11 ⊢
      have hfull : (insAll (onL x ls)).length = 0 ↔ onL x ls = [] := insAll_nil _
      refine C.exit ?_
      refine C.seq ?_
      refine C.seq ?_
      refine C.region ?_
      refine G.moveS rfl trivial rfl rfl rfl ?_
      refine G.lenSlice rfl trivial rfl rfl Try.underlying27 rfl ?_
      refine G.bin rfl trivial rfl rfl rfl rfl rfl ?_
      refine G.nil ?_
      refine C.cond _ rfl ?_ ?_
      · intro hc4
        refine C.seq ?_
        refine C.region ?_
        refine G.moveS rfl trivial rfl rfl rfl ?_
        refine G.assignS rfl trivial rfl rfl rfl ?_
        refine G.assignB rfl trivial rfl rfl rfl ?_
        refine G.nil ?_
        refine C.less (fun _ h => h.skip1) ?_
        refine C.ret ?_
        -- end c2Fc4T
        have hne : onL x ls ≠ [] := by intro h; have := hfull.2 h; omega
        exact ⟨rfl, _, Res.of (rs := [.tmp 8, .tmp 9]) rfl rfl, _, so, s1, _, ⟨_, by unfold locked; rw [if_neg hne]; exact hv, rfl⟩, hon, rfl, by rw [decide_eq_false hne]; rfl⟩
      · intro hc4
        have hno : onL x ls = [] := hfull.1 (by omega)
        refine C.less (fun _ h => h.tail) ?_
        refine C.skip ?_
        refine C.seq ?_
        refine C.seq ?_
        refine C.region ?_
        refine G.moveP rfl trivial rfl rfl rfl ?_
        refine G.moveI rfl trivial rfl rfl rfl ?_
        refine G.moveI rfl trivial rfl rfl rfl ?_
        refine G.moveT rfl trivial rfl rfl rfl ?_
        refine G.call E46 rfl rfl trivial rfl rfl (FnS.read (rhas_loop W0 ([(b10, .row (oneC x) 81 3)] :: L0) bw ls s1 [(bw, .row [.slice a ls.length c] 30 1)] ⟨_, hv, rfl⟩ (by omega) t mo k1) P3.symm) rfl ?_
        rintro e L2 ⟨rfl, rfl⟩
        rw [show lockOf t mo k1 = x from lockOf_again hx hxx]
        first | refine G.notD rfl trivial rfl rfl rfl ?_ | refine G.not rfl trivial rfl rfl rfl ?_
        refine G.nil ?_
        refine C.condB _ rfl ?_ ?_
        · intro hc5
          refine C.drawn mixed (_) [7, 10] (fun _ h => h) ?_
          refine GA.pure (i := 0) (fun _ _ _ _ _ h => h) rfl (by kernel_rfl) trivial rfl rfl (Y.moveP rfl rfl) (#[true, false, false, false, false, false, false, false, false, false, false]) (by kernel_rfl) ?_
          refine GA.pure (i := 1) (fun _ _ _ _ _ h => h) rfl (by kernel_rfl) trivial rfl rfl (Y.moveP rfl rfl) (#[true, true, false, false, false, false, false, false, false, false, false]) (by kernel_rfl) ?_
          first | refine GA.pure (i := 2) (fun _ _ _ _ _ h => h) rfl (by kernel_rfl) trivial rfl rfl (Y.nilCheckP rfl rfl) (#[true, true, true, false, false, false, false, false, false, false, false]) (by kernel_rfl) ?_ | refine GA.pure (i := 2) (fun _ _ _ _ _ h => h) rfl (by kernel_rfl) trivial rfl rfl (Y.nilCheckF rfl rfl) (#[true, true, true, false, false, false, false, false, false, false, false]) (by kernel_rfl) ?_
          refine GA.pure (i := 3) (fun _ _ _ _ _ h => h) rfl (by kernel_rfl) trivial rfl rfl (Y.fieldAddr rfl Try.underlying30 rfl I28 rfl rfl) (#[true, true, true, true, false, false, false, false, false, false, false]) (by kernel_rfl) ?_
          refine GA.read (i := 4) (fun _ _ _ _ _ h => h) rfl (by kernel_rfl) (by kernel_rfl) trivial rfl rfl (Y.loadAt (by first | exact .here | exact .next .here | exact .next (.next .here) | exact .next (.next (.next .here)) | exact .next (.next (.next (.next .here))) | exact .next (.next (.next (.next (.next .here)))) | exact .next (.next (.next (.next (.next (.next .here))))) | exact .next (.next (.next (.next (.next (.next (.next .here)))))) | exact .in1 | exact .next .in1 | exact .next (.next .in1) | exact .next (.next (.next .in1)) | exact .next (.next (.next (.next .in1))) | exact .in2 | exact .next .in2 | exact .next (.next .in2) | exact .next (.next (.next .in2)) | exact .next (.next (.next (.next .in2))) | exact .app .here | exact .app (.next .here) | exact .app (.next (.next .here)) | exact .app (.next (.next (.next .here))) | exact .app (.next (.next (.next (.next .here)))) | exact .app (.next (.next (.next (.next (.next .here))))) | exact .app (.next (.next (.next (.next (.next (.next .here)))))) | exact .app (.next (.next (.next (.next (.next (.next (.next .here))))))) | exact .app .in1 | exact .app .in2 | exact .app (.next .in1) | exact .next (.app .in1) | exact .next (.next (.app .in1)) | exact .next (.app .here) | exact .next (.next (.app .here)) | exact .next (.next (.next (.app .here))) | exact .next (.next (.next (.next (.app .here))))) rfl Try.underlying28 rfl rfl (by rfl)) (#[true, true, true, true, true, false, false, false, false, false, false]) (by kernel_rfl) ?_
          refine GA.read (i := 5) (fun _ _ _ _ _ h => h) rfl (by kernel_rfl) (by kernel_rfl) trivial rfl rfl (Y.loadRow (by first | exact .here | exact .next .here | exact .next (.next .here) | exact .next (.next (.next .here)) | exact .next (.next (.next (.next .here))) | exact .next (.next (.next (.next (.next .here)))) | exact .next (.next (.next (.next (.next (.next .here))))) | exact .next (.next (.next (.next (.next (.next (.next .here)))))) | exact .in1 | exact .next .in1 | exact .next (.next .in1) | exact .next (.next (.next .in1)) | exact .next (.next (.next (.next .in1))) | exact .in2 | exact .next .in2 | exact .next (.next .in2) | exact .next (.next (.next .in2)) | exact .next (.next (.next (.next .in2))) | exact .app .here | exact .app (.next .here) | exact .app (.next (.next .here)) | exact .app (.next (.next (.next .here))) | exact .app (.next (.next (.next (.next .here)))) | exact .app (.next (.next (.next (.next (.next .here))))) | exact .app (.next (.next (.next (.next (.next (.next .here)))))) | exact .app (.next (.next (.next (.next (.next (.next (.next .here))))))) | exact .app .in1 | exact .app .in2 | exact .app (.next .in1) | exact .next (.app .in1) | exact .next (.next (.app .in1)) | exact .next (.app .here) | exact .next (.next (.app .here)) | exact .next (.next (.next (.app .here))) | exact .next (.next (.next (.next (.app .here))))) rfl Try.underlying81 rfl I81 rfl rfl) (#[true, true, true, true, true, true, false, false, false, false, false]) (by kernel_rfl) ?_
          refine GA.one (i := 6) rfl (by kernel_rfl) (#[true, true, true, true, true, true, true, false, false, false, false]) (by kernel_rfl) ?_
          refine G.buildSliceL (cs := oneC x) (zs := [(.int .i64 0), (.int .i64 0), (.string ByteArray.empty)]) rfl trivial rfl rfl Try.underlying28 I81 rfl (by kernel_rfl) rfl rfl ?_
          intro b69
          refine G.nil ?_
          refine ⟨fun _ _ h => h.tail, ?_⟩
          refine GA.less (L' := s1 :: [(b69, .row (oneC x) 81 3)] :: [(b10, .row (oneC x) 81 3)] :: [(bw, .row [.slice a ls.length c] 30 1)] :: L0) (fun _ h => h.up3) ?_
          refine GA.one (i := 7) rfl (by kernel_rfl) (#[true, true, true, true, true, true, true, true, false, false, false]) (by kernel_rfl) ?_
          refine G.append hv rfl trivial rfl rfl Try.underlying28 Try.underlying28 I81 rfl (by decide) rfl rfl (by decide) (Rd.row0 (.next .here)) rfl (oneC_ok _) (by omega) ?_
          intro v70 s70 hv70
          obtain ⟨a70, c70, rfl, _⟩ := hv70.form
          refine G.nil ?_
          refine ⟨fun _ h => absurd h (by simp [hit]), ?_⟩
          first | refine GA.pure (i := 8) (fun _ _ _ _ _ h => h) rfl (by kernel_rfl) trivial rfl rfl (Y.nilCheckP rfl rfl) (#[true, true, true, true, true, true, true, true, true, false, false]) (by kernel_rfl) ?_ | refine GA.pure (i := 8) (fun _ _ _ _ _ h => h) rfl (by kernel_rfl) trivial rfl rfl (Y.nilCheckF rfl rfl) (#[true, true, true, true, true, true, true, true, true, false, false]) (by kernel_rfl) ?_
          refine GA.pure (i := 9) (fun _ _ _ _ _ h => h) rfl (by kernel_rfl) trivial rfl rfl (Y.fieldAddr rfl Try.underlying30 rfl I28 rfl rfl) (#[true, true, true, true, true, true, true, true, true, true, false]) (by kernel_rfl) ?_
          refine GA.one (i := 10) rfl (by kernel_rfl) (#[true, true, true, true, true, true, true, true, true, true, true]) (by kernel_rfl) ?_
          refine G.store (v := .slice _ _ _) (by first | exact .here | exact .next .here | exact .next (.next .here) | exact .next (.next (.next .here)) | exact .next (.next (.next (.next .here))) | exact .next (.next (.next (.next (.next .here)))) | exact .next (.next (.next (.next (.next (.next .here))))) | exact .next (.next (.next (.next (.next (.next (.next .here)))))) | exact .in1 | exact .next .in1 | exact .next (.next .in1) | exact .next (.next (.next .in1)) | exact .next (.next (.next (.next .in1))) | exact .in2 | exact .next .in2 | exact .next (.next .in2) | exact .next (.next (.next .in2)) | exact .next (.next (.next (.next .in2))) | exact .app .here | exact .app (.next .here) | exact .app (.next (.next .here)) | exact .app (.next (.next (.next .here))) | exact .app (.next (.next (.next (.next .here)))) | exact .app (.next (.next (.next (.next (.next .here))))) | exact .app (.next (.next (.next (.next (.next (.next .here)))))) | exact .app (.next (.next (.next (.next (.next (.next (.next .here))))))) | exact .app .in1 | exact .app .in2 | exact .app (.next .in1) | exact .next (.app .in1) | exact .next (.next (.app .in1)) | exact .next (.app .here) | exact .next (.next (.app .here)) | exact .next (.next (.next (.app .here))) | exact .next (.next (.next (.next (.app .here))))) rfl trivial rfl I28 rfl rfl rfl (by first | decide | (simp; done) | (simp; omega)) _ (by first | (simp only [List.set_cons_succ, List.set_cons_zero]; done) | (simp only [List.set_cons_succ, List.set_cons_zero]; exact rfl) | exact rfl) ?_
          refine G.nil ?_
          refine ⟨fun _ h => absurd h (by simp [hit]), ?_⟩
          refine GA.done (by kernel_rfl) ?_
          refine C.seq ?_
          refine C.region ?_
          refine G.assignS rfl trivial rfl rfl rfl ?_
          refine G.assignB rfl trivial rfl rfl rfl ?_
          refine G.nil ?_
          refine C.less (fun _ h => h.skip1.skip1.empty) ?_
          refine C.ret ?_
          -- end c2Fc4Fc5T
          have hin : inL x ls = false := by simpa using hc5
          exact ⟨rfl, _, Res.of (rs := [.tmp 8, .tmp 9]) rfl rfl, _, [], s70, _, ⟨_, by unfold locked; rw [if_pos hno, hin]; simpa using hv70, rfl⟩, by rw [hno]; exact OwnS.nil _ _, rfl, by rw [decide_eq_true hno]; rfl⟩
        · intro hc5
          refine C.skip ?_
          refine C.seq ?_
          refine C.region ?_
          refine G.assignS rfl trivial rfl rfl rfl ?_
          refine G.assignB rfl trivial rfl rfl rfl ?_
          refine G.nil ?_
          refine C.less (fun _ h => h.tail.empty) ?_
          refine C.ret ?_
          -- end c2Fc4Fc5F
          have hin : inL x ls = true := by simpa using hc5
          exact ⟨rfl, _, Res.of (rs := [.tmp 8, .tmp 9]) rfl rfl, _, [], s1, _, ⟨_, by unfold locked; rw [if_pos hno, if_pos hin]; exact hv, rfl⟩, by rw [hno]; exact OwnS.nil _ _, rfl, by rw [decide_eq_true hno]; rfl⟩
end ref
end Go.Proofs.Ytomiidlbfcfpiaa
