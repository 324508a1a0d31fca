/-
  Waits: the document's answer (engrossref23), walked on: Set, Clear; both answers the same.
-/
import Derived.Test.YtomiidlbfcfpiaaWa5
namespace Go.Proofs.Ytomiidlbfcfpiaa
open Go Go.SL Go.RowKit Go.Sort

def fromNot (t : Int) (es : List Edge) : List Edge := es.filter fun e => !decide (e.1 = t)
def noneOf (t : Int) (es : List Edge) : List Edge := es.filter fun e => !decide (e.1 = t) && !decide (e.2 = t)
theorem fromNot_le (t : Int) (es : List Edge) : (fromNot t es).length ≤ es.length := List.length_filter_le _ _
theorem noneOf_le (t : Int) (es : List Edge) : (noneOf t es).length ≤ es.length := List.length_filter_le _ _
theorem fromNot_take {t : Int} {es : List Edge} {j : Nat} (h : j < es.length) : fromNot t (es.take (j + 1)) = if ¬ es[j].1 = t then fromNot t (es.take j) ++ [es[j]] else fromNot t (es.take j) := by
  unfold fromNot
  rw [List.take_succ_eq_append_getElem h, List.filter_append]
  by_cases e : es[j].1 = t <;> simp [e]
theorem noneOf_take {t : Int} {es : List Edge} {j : Nat} (h : j < es.length) : noneOf t (es.take (j + 1)) = if ¬ es[j].1 = t ∧ ¬ es[j].2 = t then noneOf t (es.take j) ++ [es[j]] else noneOf t (es.take j) := by
  unfold noneOf
  rw [List.take_succ_eq_append_getElem h, List.filter_append]
  by_cases e : es[j].1 = t <;> by_cases e2 : es[j].2 = t <;> simp [e, e2]
def setE (t : Int) (xs : List Int) (es : List Edge) : List Edge := fromNot t es ++ xs.map fun x => (t, x)
section ref
variable (W0 : World) (L0 : List Seg) (bw : Nat)
theorem rclear_spec (es : List Edge) (s1 s2 : Seg) (h : RwIs bw es s1 s2) (hl : es.length ≤ 900000) (t : Int) :
    FnS Try.prog W0 35 #[.pointer (some ⟨bw, 0, none⟩), .int .i64 t] (s1 :: s2 :: L0) (fun e L' => ∃ s1' s2', RwIs bw (noneOf t es) s1' s2' ∧ L' = s1' :: s2' :: L0 ∧ e = .returned (.tuple #[])) := by
  refine FnS.drop (R := fun e L' => ∃ i1 s1' s2', RwIs bw (noneOf t es) s1' s2' ∧ L' = s1' :: i1 :: s2' :: L0 ∧ e = .returned (.tuple #[])) ?_ (fun e L' ⟨i1, s1', s2', h1, h2, h3⟩ => ⟨s1' :: s2' :: L0, fun w h => by subst h2; exact h.skip1, s1', s2', h1, rfl, h3⟩)
  obtain ⟨v, hv, rfl⟩ := h
  obtain ⟨av, cv, rfl, _⟩ := hv.form
  refine FnS.of (args := [.pointer (some ⟨bw, 0, none⟩), .int .i64 t]) Try.func35 rfl rfl ?_
  refine C.seq ?_
  refine C.region ?_
  refine G.assignS rfl trivial rfl rfl rfl ?_
  refine G.nil ?_
  refine C.seq ?_
  refine C.seq ?_
  refine C.region ?_
  refine G.assignI rfl trivial rfl rfl rfl ?_
  refine G.less (fun _ h => h.empty) ?_
  refine G.nil ?_
  refine C.block ?_
  refine C.loop (fun m F D' L' => ∃ (i : Nat) (ao : Option Addr) (co : Nat) (so : Seg), m = es.length - i + 0 ∧ i ≤ es.length ∧ OwnS (.slice ao (noneOf t (es.take i)).length co) (noneOf t (es.take i)).length ((noneOf t (es.take i)).flatMap edC) 86 2 so ∧ F 0 = .pointer (some ⟨bw, 0, none⟩) ∧ F 1 = .int .i64 t ∧ F 4 = .slice ao (noneOf t (es.take i)).length co ∧ F 5 = .int .i64 (i : Int) ∧ D' = [] ∧ so :: s1 :: [(bw, .row [.slice av es.length cv] 33 1)] :: L0 = L') ⟨_, ⟨0, none, 0, [], rfl, Nat.zero_le _, OwnS.nil _ _, rfl, rfl, rfl, rfl, rfl, rfl⟩⟩ ?_
  rintro m F D' L' ⟨i, ao, co, so, rfl, hi, hon, h0, h1, h4, h5, rfl, rfl⟩
  refine C.fix (d := 0) h0 ?_
  refine C.fix (d := 1) h1 ?_
  refine C.fix (d := 4) h4 ?_
  refine C.fix (d := 5) h5 ?_
  refine C.seq ?_
  refine C.seq ?_
  refine C.region ?_
  refine G.moveI rfl trivial rfl rfl rfl ?_
  refine G.moveP rfl trivial rfl rfl rfl ?_
  first | refine G.nilCheckP rfl trivial rfl rfl rfl ?_ | refine G.nilCheckF rfl trivial rfl rfl rfl ?_
  refine G.fieldAddr rfl trivial rfl rfl Try.underlying33 rfl I31 rfl rfl ?_
  refine G.loadAt (by first | exact .here | exact .next .here | exact .next (.next .here) | exact .next (.next (.next .here)) | exact .next (.next (.next (.next .here))) | exact .next (.next (.next (.next (.next .here)))) | exact .next (.next (.next (.next (.next (.next .here))))) | exact .next (.next (.next (.next (.next (.next (.next .here)))))) | exact .in1 | exact .next .in1 | exact .next (.next .in1) | exact .next (.next (.next .in1)) | exact .next (.next (.next (.next .in1))) | exact .in2 | exact .next .in2 | exact .next (.next .in2) | exact .next (.next (.next .in2)) | exact .next (.next (.next (.next .in2))) | exact .app .here | exact .app (.next .here) | exact .app (.next (.next .here)) | exact .app (.next (.next (.next .here))) | exact .app (.next (.next (.next (.next .here)))) | exact .app (.next (.next (.next (.next (.next .here))))) | exact .app (.next (.next (.next (.next (.next (.next .here)))))) | exact .app (.next (.next (.next (.next (.next (.next (.next .here))))))) | exact .app .in1 | exact .app .in2 | exact .app (.next .in1) | exact .next (.app .in1) | exact .next (.next (.app .in1)) | exact .next (.app .here) | exact .next (.next (.app .here)) | exact .next (.next (.next (.app .here))) | exact .next (.next (.next (.next (.app .here))))) rfl trivial rfl rfl Try.underlying31 rfl rfl (by rfl) ?_
  refine G.lenSlice rfl trivial rfl rfl Try.underlying31 rfl ?_
  refine G.bin rfl trivial rfl rfl rfl rfl rfl ?_
  refine G.nil ?_
  refine C.cond _ rfl ?_ ?_
  · intro hc0
    have hlt : i < es.length := by omega
    obtain ⟨bq, cq, kq, hveq, rfl, hq1, hq2⟩ := hv.block (by omega)
    cases hveq
    obtain ⟨o1, o2⟩ := ed_at hlt
    have hsn := noneOf_take (t := t) hlt
    have hol := noneOf_le t (es.take i)
    rw [List.length_take] at hol
    refine C.skip ?_
    refine C.seq ?_
    refine C.block ?_
    refine C.seq ?_
    refine C.region ?_
    refine G.moveP rfl trivial rfl rfl rfl ?_
    first | refine G.nilCheckP rfl trivial rfl rfl rfl ?_ | refine G.nilCheckF rfl trivial rfl rfl rfl ?_
    refine G.fieldAddr rfl trivial rfl rfl Try.underlying33 rfl I31 rfl rfl ?_
    refine G.loadAt (by first | exact .here | exact .next .here | exact .next (.next .here) | exact .next (.next (.next .here)) | exact .next (.next (.next (.next .here))) | exact .next (.next (.next (.next (.next .here)))) | exact .next (.next (.next (.next (.next (.next .here))))) | exact .next (.next (.next (.next (.next (.next (.next .here)))))) | exact .in1 | exact .next .in1 | exact .next (.next .in1) | exact .next (.next (.next .in1)) | exact .next (.next (.next (.next .in1))) | exact .in2 | exact .next .in2 | exact .next (.next .in2) | exact .next (.next (.next .in2)) | exact .next (.next (.next (.next .in2))) | exact .app .here | exact .app (.next .here) | exact .app (.next (.next .here)) | exact .app (.next (.next (.next .here))) | exact .app (.next (.next (.next (.next .here)))) | exact .app (.next (.next (.next (.next (.next .here))))) | exact .app (.next (.next (.next (.next (.next (.next .here)))))) | exact .app (.next (.next (.next (.next (.next (.next (.next .here))))))) | exact .app .in1 | exact .app .in2 | exact .app (.next .in1) | exact .next (.app .in1) | exact .next (.next (.app .in1)) | exact .next (.app .here) | exact .next (.next (.app .here)) | exact .next (.next (.next (.app .here))) | exact .next (.next (.next (.next (.app .here))))) rfl trivial rfl rfl Try.underlying31 rfl rfl (by rfl) ?_
    refine G.moveI rfl trivial rfl rfl rfl ?_
    refine G.indexAddr rfl trivial rfl rfl Try.underlying31 I86 rfl rfl (by omega) ?_
    refine G.fieldAddr rfl trivial rfl rfl Try.underlying86 rfl I2 rfl rfl ?_
    refine G.loadAt (.next .here) rfl trivial rfl rfl Try.underlying2 rfl rfl o1 ?_
    refine G.moveI rfl trivial rfl rfl rfl ?_
    refine G.bin rfl trivial rfl rfl rfl rfl rfl ?_
    refine G.moveB rfl trivial rfl rfl rfl ?_
    refine G.fork (t := 25) _ rfl ?_ ?_
    · intro hg25
      refine G.moveP rfl ⟨_, rfl, rfl, rfl⟩ rfl rfl rfl ?_
      first | refine G.nilCheckP rfl ⟨_, rfl, rfl, rfl⟩ rfl rfl rfl ?_ | refine G.nilCheckF rfl ⟨_, rfl, rfl, rfl⟩ rfl rfl rfl ?_
      refine G.fieldAddr rfl ⟨_, rfl, rfl, rfl⟩ rfl rfl Try.underlying33 rfl I31 rfl rfl ?_
      refine G.loadAt (by first | exact .here | exact .next .here | exact .next (.next .here) | exact .next (.next (.next .here)) | exact .next (.next (.next (.next .here))) | exact .next (.next (.next (.next (.next .here)))) | exact .next (.next (.next (.next (.next (.next .here))))) | exact .next (.next (.next (.next (.next (.next (.next .here)))))) | exact .in1 | exact .next .in1 | exact .next (.next .in1) | exact .next (.next (.next .in1)) | exact .next (.next (.next (.next .in1))) | exact .in2 | exact .next .in2 | exact .next (.next .in2) | exact .next (.next (.next .in2)) | exact .next (.next (.next (.next .in2))) | exact .app .here | exact .app (.next .here) | exact .app (.next (.next .here)) | exact .app (.next (.next (.next .here))) | exact .app (.next (.next (.next (.next .here)))) | exact .app (.next (.next (.next (.next (.next .here))))) | exact .app (.next (.next (.next (.next (.next (.next .here)))))) | exact .app (.next (.next (.next (.next (.next (.next (.next .here))))))) | exact .app .in1 | exact .app .in2 | exact .app (.next .in1) | exact .next (.app .in1) | exact .next (.next (.app .in1)) | exact .next (.app .here) | exact .next (.next (.app .here)) | exact .next (.next (.next (.app .here))) | exact .next (.next (.next (.next (.app .here))))) rfl ⟨_, rfl, rfl, rfl⟩ rfl rfl Try.underlying31 rfl rfl (by rfl) ?_
      refine G.moveI rfl ⟨_, rfl, rfl, rfl⟩ rfl rfl rfl ?_
      refine G.indexAddr rfl ⟨_, rfl, rfl, rfl⟩ rfl rfl Try.underlying31 I86 rfl rfl (by omega) ?_
      refine G.fieldAddr rfl ⟨_, rfl, rfl, rfl⟩ rfl rfl Try.underlying86 rfl I2 rfl rfl ?_
      refine G.loadAt (.next .here) rfl ⟨_, rfl, rfl, rfl⟩ rfl rfl Try.underlying2 rfl rfl o2 ?_
      refine G.moveI rfl ⟨_, rfl, rfl, rfl⟩ rfl rfl rfl ?_
      refine G.bin rfl ⟨_, rfl, rfl, rfl⟩ rfl rfl rfl rfl rfl ?_
      first | refine G.pickT rfl trivial rfl rfl rfl rfl ?_ | refine G.pickF rfl trivial rfl rfl rfl rfl ?_
      refine G.nil ?_
      refine C.cond _ rfl ?_ ?_
      · intro hc1
        refine C.region ?_
        refine G.moveS rfl trivial rfl rfl rfl ?_
        refine G.moveP rfl trivial rfl rfl rfl ?_
        first | refine G.nilCheckP rfl trivial rfl rfl rfl ?_ | refine G.nilCheckF rfl trivial rfl rfl rfl ?_
        refine G.fieldAddr rfl trivial rfl rfl Try.underlying33 rfl I31 rfl rfl ?_
        refine G.loadAt (by first | exact .here | exact .next .here | exact .next (.next .here) | exact .next (.next (.next .here)) | exact .next (.next (.next (.next .here))) | exact .next (.next (.next (.next (.next .here)))) | exact .next (.next (.next (.next (.next (.next .here))))) | exact .next (.next (.next (.next (.next (.next (.next .here)))))) | exact .in1 | exact .next .in1 | exact .next (.next .in1) | exact .next (.next (.next .in1)) | exact .next (.next (.next (.next .in1))) | exact .in2 | exact .next .in2 | exact .next (.next .in2) | exact .next (.next (.next .in2)) | exact .next (.next (.next (.next .in2))) | exact .app .here | exact .app (.next .here) | exact .app (.next (.next .here)) | exact .app (.next (.next (.next .here))) | exact .app (.next (.next (.next (.next .here)))) | exact .app (.next (.next (.next (.next (.next .here))))) | exact .app (.next (.next (.next (.next (.next (.next .here)))))) | exact .app (.next (.next (.next (.next (.next (.next (.next .here))))))) | exact .app .in1 | exact .app .in2 | exact .app (.next .in1) | exact .next (.app .in1) | exact .next (.next (.app .in1)) | exact .next (.app .here) | exact .next (.next (.app .here)) | exact .next (.next (.next (.app .here))) | exact .next (.next (.next (.next (.app .here))))) rfl trivial rfl rfl Try.underlying31 rfl rfl (by rfl) ?_
        refine G.moveI rfl trivial rfl rfl rfl ?_
        refine G.indexAddr rfl trivial rfl rfl Try.underlying31 I86 rfl rfl (by omega) ?_
        refine G.loadAgg (edC es[i]) rfl trivial rfl rfl Try.underlying86 rfl I86 rfl rfl (fun w hm => agg_of_row hm (.next .here) (by have h := row_chunk (rs := []) (f := edC) (k := 2) (fun _ _ => rfl) hlt; rw [List.append_nil] at h; exact h)) ?_
        refine G.buildSliceL (cs := edC es[i]) (zs := [(.int .i64 0), (.int .i64 0)]) rfl trivial rfl rfl Try.underlying31 I86 rfl (by kernel_rfl) rfl rfl ?_
        intro b45
        refine G.less (fun _ h => h.perm2) ?_
        refine G.append hon rfl trivial rfl rfl Try.underlying31 Try.underlying31 I86 rfl (by decide) rfl rfl (by decide) (Rd.row0 (.next .here)) rfl (edC_ok _) (by omega) ?_
        intro v46 s46 hv46
        obtain ⟨a46, c46, rfl, _⟩ := hv46.form
        refine G.assignS rfl trivial rfl rfl rfl ?_
        refine G.nil ?_
        refine C.region ?_
        refine G.moveI rfl trivial rfl rfl rfl ?_
        refine G.addN (j := 1) rfl trivial rfl rfl rfl rfl (by omega) ?_
        refine G.assignI rfl trivial rfl rfl rfl ?_
        refine G.less (fun _ h => h.skip1) ?_
        refine G.nil ?_
        have e1 : noneOf t (es.take (i + 1)) = noneOf t (es.take i) ++ [es[i]] := by rw [hsn, if_pos ⟨hg25, hc1⟩]
        exact ⟨es.length - (i + 1) + 0, by omega, i + 1, a46, c46, s46, rfl, by omega, by rw [e1, List.length_append, List.flatMap_append]; simpa using hv46, rfl, rfl, by rw [e1, List.length_append]; rfl, rfl, rfl, rfl⟩
      · intro hc1
        refine C.skip ?_
        refine C.region ?_
        refine G.moveI rfl trivial rfl rfl rfl ?_
        refine G.addN (j := 1) rfl trivial rfl rfl rfl rfl (by omega) ?_
        refine G.assignI rfl trivial rfl rfl rfl ?_
        refine G.nil ?_
        have e1 : noneOf t (es.take (i + 1)) = noneOf t (es.take i) := by rw [hsn, if_neg (by first | exact fun h => hg25 h.1 | exact fun h => hc1 h.2)]
        exact ⟨es.length - (i + 1) + 0, by omega, i + 1, ao, co, so, rfl, by omega, by rw [e1]; exact hon, rfl, rfl, by rw [e1]; rfl, rfl, rfl, rfl⟩
    · intro hg25
      refine G.skip rfl rfl rfl rfl rfl rfl ?_
      refine G.skip rfl rfl rfl rfl rfl rfl ?_
      refine G.skip rfl rfl rfl rfl rfl rfl ?_
      refine G.skip rfl rfl rfl rfl rfl rfl ?_
      refine G.skip rfl rfl rfl rfl rfl rfl ?_
      refine G.skip rfl rfl rfl rfl rfl rfl ?_
      refine G.skip rfl rfl rfl rfl rfl rfl ?_
      refine G.skip rfl rfl rfl rfl rfl rfl ?_
      refine G.skip rfl rfl rfl rfl rfl rfl ?_
      refine G.skip rfl rfl rfl rfl rfl rfl ?_
      first | refine G.pickT rfl trivial rfl rfl rfl rfl ?_ | refine G.pickF rfl trivial rfl rfl rfl rfl ?_
      refine G.nil ?_
      refine C.condF rfl ?_
      refine C.skip ?_
      refine C.region ?_
      refine G.moveI rfl trivial rfl rfl rfl ?_
      refine G.addN (j := 1) rfl trivial rfl rfl rfl rfl (by omega) ?_
      refine G.assignI rfl trivial rfl rfl rfl ?_
      refine G.nil ?_
      have e1 : noneOf t (es.take (i + 1)) = noneOf t (es.take i) := by rw [hsn, if_neg (by first | exact fun h => hg25 h.1 | exact fun h => hc1 h.2)]
      exact ⟨es.length - (i + 1) + 0, by omega, i + 1, ao, co, so, rfl, by omega, by rw [e1]; exact hon, rfl, rfl, by rw [e1]; rfl, rfl, rfl, rfl⟩
  · intro hc0
    rw [List.take_of_length_le (show es.length ≤ i by omega)] at hon h4 ⊢
    refine C.exit ?_
    refine C.region ?_
    refine G.moveP rfl trivial rfl rfl rfl ?_
    refine G.moveS rfl trivial rfl rfl rfl ?_
    first | refine G.nilCheckP rfl trivial rfl rfl rfl ?_ | refine G.nilCheckF rfl trivial rfl rfl rfl ?_
    refine G.fieldAddr rfl trivial rfl rfl Try.underlying33 rfl I31 rfl rfl ?_
    refine G.store (v := .slice _ _ _) (by first | exact .here | exact .next .here | exact .next (.next .here) | exact .next (.next (.next .here)) | exact .next (.next (.next (.next .here))) | exact .next (.next (.next (.next (.next .here)))) | exact .next (.next (.next (.next (.next (.next .here))))) | exact .next (.next (.next (.next (.next (.next (.next .here)))))) | exact .in1 | exact .next .in1 | exact .next (.next .in1) | exact .next (.next (.next .in1)) | exact .next (.next (.next (.next .in1))) | exact .in2 | exact .next .in2 | exact .next (.next .in2) | exact .next (.next (.next .in2)) | exact .next (.next (.next (.next .in2))) | exact .app .here | exact .app (.next .here) | exact .app (.next (.next .here)) | exact .app (.next (.next (.next .here))) | exact .app (.next (.next (.next (.next .here)))) | exact .app (.next (.next (.next (.next (.next .here))))) | exact .app (.next (.next (.next (.next (.next (.next .here)))))) | exact .app (.next (.next (.next (.next (.next (.next (.next .here))))))) | exact .app .in1 | exact .app .in2 | exact .app (.next .in1) | exact .next (.app .in1) | exact .next (.next (.app .in1)) | exact .next (.app .here) | exact .next (.next (.app .here)) | exact .next (.next (.next (.app .here))) | exact .next (.next (.next (.next (.app .here))))) rfl trivial rfl I31 rfl rfl rfl (by first | decide | (simp; done) | (simp; omega)) _ (by first | (simp only [List.set_cons_succ, List.set_cons_zero]; done) | (simp only [List.set_cons_succ, List.set_cons_zero]; exact rfl) | exact rfl) ?_
    refine G.nil ?_
    -- end c0F
    exact ⟨rfl, _, Res.of (rs := []) rfl rfl, _, _, _, ⟨_, hon, rfl⟩, rfl, rfl⟩
theorem rset_spec (es : List Edge) (s1 s2 : Seg) (h : RwIs bw es s1 s2) (hl : es.length ≤ 800000) (t : Int) (a : Option Addr) (c : Nat) (xs : List Int) (hxs : xs.length ≤ 1000) (hr : Rd W0 (s1 :: s2 :: L0) a (xs.map (Value.int .i64))) (hr0 : ∀ s1 s2, Rd W0 (s1 :: s2 :: L0) a (xs.map (Value.int .i64))) :
    FnS Try.prog W0 29 #[.pointer (some ⟨bw, 0, none⟩), .int .i64 t, .slice a xs.length c] (s1 :: s2 :: L0)
      (fun e L' => ∃ (b : Bool) (es' : List Edge) (s1' s2' : Seg), ((b = true ∧ ¬ Rch (gE es) xs t ∧ es' = setE t xs es) ∨ (b = false ∧ Rch (gE es) xs t ∧ es' = es)) ∧ RwIs bw es' s1' s2' ∧ L' = s1' :: s2' :: L0 ∧ e = .returned (.bool b)) := by
  have hh := h
  obtain ⟨v, hv, rfl⟩ := h
  obtain ⟨av, cv, rfl, _⟩ := hv.form
  refine FnS.of (args := [.pointer (some ⟨bw, 0, none⟩), .int .i64 t, .slice a xs.length c]) Try.func29 rfl rfl ?_
  refine C.seq ?_
  refine C.region ?_
  refine G.assignB rfl trivial rfl rfl rfl ?_
  refine G.nil ?_
  refine C.seq ?_
  refine C.seq ?_
  refine C.region ?_
  refine G.moveP rfl trivial rfl rfl rfl ?_
  refine G.moveI rfl trivial rfl rfl rfl ?_
  refine G.moveS rfl trivial rfl rfl rfl ?_
  refine G.call E47 rfl rfl trivial rfl rfl (rround_spec W0 L0 bw es s1 _ hh (by omega) t a c xs hxs hr) rfl ?_
  rintro e L2 ⟨rfl, bb, hbb, rfl⟩
  refine G.nil ?_
  refine C.condB _ rfl ?_ ?_
  · intro hc0
    refine C.seq ?_
    refine C.region ?_
    refine G.assignB rfl trivial rfl rfl rfl ?_
    refine G.nil ?_
    refine C.ret ?_
    -- end c0T
    exact ⟨rfl, _, Res.of (rs := [.tmp 6]) rfl rfl, false, es, s1, _, .inr ⟨rfl, hbb.1 hc0, rfl⟩, hh, rfl, rfl⟩
  · intro hc0
    have hno : ¬ Rch (gE es) xs t := fun h2 => by rw [hbb.2 h2] at hc0; cases hc0
    refine C.skip ?_
    refine C.seq ?_
    refine C.region ?_
    refine G.assignS rfl trivial rfl rfl rfl ?_
    refine G.nil ?_
    refine C.seq ?_
    refine C.seq ?_
    refine C.region ?_
    refine G.assignI rfl trivial rfl rfl rfl ?_
    refine G.less (fun _ h => h.empty) ?_
    refine G.nil ?_
    refine C.block ?_
    refine C.loop (fun m F D' L' => ∃ (i : Nat) (ao : Option Addr) (co : Nat) (so : Seg), m = es.length - i + 0 ∧ i ≤ es.length ∧ OwnS (.slice ao (fromNot t (es.take i)).length co) (fromNot t (es.take i)).length ((fromNot t (es.take i)).flatMap edC) 86 2 so ∧ F 0 = .pointer (some ⟨bw, 0, none⟩) ∧ F 1 = .int .i64 t ∧ F 2 = .slice a xs.length c ∧ F 7 = .slice ao (fromNot t (es.take i)).length co ∧ F 8 = .int .i64 (i : Int) ∧ D' = [] ∧ so :: s1 :: [(bw, .row [.slice av es.length cv] 33 1)] :: L0 = L') ⟨_, ⟨0, none, 0, [], rfl, Nat.zero_le _, OwnS.nil _ _, rfl, rfl, rfl, rfl, rfl, rfl, rfl⟩⟩ ?_
    rintro m F D' L' ⟨i, ao, co, so, rfl, hi, hon, h0, h1, h2, h7, h8, rfl, rfl⟩
    refine C.fix (d := 0) h0 ?_
    refine C.fix (d := 1) h1 ?_
    refine C.fix (d := 2) h2 ?_
    refine C.fix (d := 7) h7 ?_
    refine C.fix (d := 8) h8 ?_
    refine C.seq ?_
    refine C.seq ?_
    refine C.region ?_
    refine G.moveI rfl trivial rfl rfl rfl ?_
    refine G.moveP rfl trivial rfl rfl rfl ?_
    first | refine G.nilCheckP rfl trivial rfl rfl rfl ?_ | refine G.nilCheckF rfl trivial rfl rfl rfl ?_
    refine G.fieldAddr rfl trivial rfl rfl Try.underlying33 rfl I31 rfl rfl ?_
    refine G.loadAt (by first | exact .here | exact .next .here | exact .next (.next .here) | exact .next (.next (.next .here)) | exact .next (.next (.next (.next .here))) | exact .next (.next (.next (.next (.next .here)))) | exact .next (.next (.next (.next (.next (.next .here))))) | exact .next (.next (.next (.next (.next (.next (.next .here)))))) | exact .in1 | exact .next .in1 | exact .next (.next .in1) | exact .next (.next (.next .in1)) | exact .next (.next (.next (.next .in1))) | exact .in2 | exact .next .in2 | exact .next (.next .in2) | exact .next (.next (.next .in2)) | exact .next (.next (.next (.next .in2))) | exact .app .here | exact .app (.next .here) | exact .app (.next (.next .here)) | exact .app (.next (.next (.next .here))) | exact .app (.next (.next (.next (.next .here)))) | exact .app (.next (.next (.next (.next (.next .here))))) | exact .app (.next (.next (.next (.next (.next (.next .here)))))) | exact .app (.next (.next (.next (.next (.next (.next (.next .here))))))) | exact .app .in1 | exact .app .in2 | exact .app (.next .in1) | exact .next (.app .in1) | exact .next (.next (.app .in1)) | exact .next (.app .here) | exact .next (.next (.app .here)) | exact .next (.next (.next (.app .here))) | exact .next (.next (.next (.next (.app .here))))) rfl trivial rfl rfl Try.underlying31 rfl rfl (by rfl) ?_
    refine G.lenSlice rfl trivial rfl rfl Try.underlying31 rfl ?_
    refine G.bin rfl trivial rfl rfl rfl rfl rfl ?_
    refine G.nil ?_
    refine C.cond _ rfl ?_ ?_
    · intro hc1
      have hlt : i < es.length := by omega
      obtain ⟨bq, cq, kq, hveq, rfl, hq1, hq2⟩ := hv.block (by omega)
      cases hveq
      obtain ⟨o1, o2⟩ := ed_at hlt
      have hsn := fromNot_take (t := t) hlt
      have hol := fromNot_le t (es.take i)
      rw [List.length_take] at hol
      refine C.skip ?_
      refine C.seq ?_
      refine C.block ?_
      refine C.seq ?_
      refine C.region ?_
      refine G.moveP rfl trivial rfl rfl rfl ?_
      first | refine G.nilCheckP rfl trivial rfl rfl rfl ?_ | refine G.nilCheckF rfl trivial rfl rfl rfl ?_
      refine G.fieldAddr rfl trivial rfl rfl Try.underlying33 rfl I31 rfl rfl ?_
      refine G.loadAt (by first | exact .here | exact .next .here | exact .next (.next .here) | exact .next (.next (.next .here)) | exact .next (.next (.next (.next .here))) | exact .next (.next (.next (.next (.next .here)))) | exact .next (.next (.next (.next (.next (.next .here))))) | exact .next (.next (.next (.next (.next (.next (.next .here)))))) | exact .in1 | exact .next .in1 | exact .next (.next .in1) | exact .next (.next (.next .in1)) | exact .next (.next (.next (.next .in1))) | exact .in2 | exact .next .in2 | exact .next (.next .in2) | exact .next (.next (.next .in2)) | exact .next (.next (.next (.next .in2))) | exact .app .here | exact .app (.next .here) | exact .app (.next (.next .here)) | exact .app (.next (.next (.next .here))) | exact .app (.next (.next (.next (.next .here)))) | exact .app (.next (.next (.next (.next (.next .here))))) | exact .app (.next (.next (.next (.next (.next (.next .here)))))) | exact .app (.next (.next (.next (.next (.next (.next (.next .here))))))) | exact .app .in1 | exact .app .in2 | exact .app (.next .in1) | exact .next (.app .in1) | exact .next (.next (.app .in1)) | exact .next (.app .here) | exact .next (.next (.app .here)) | exact .next (.next (.next (.app .here))) | exact .next (.next (.next (.next (.app .here))))) rfl trivial rfl rfl Try.underlying31 rfl rfl (by rfl) ?_
      refine G.moveI rfl trivial rfl rfl rfl ?_
      refine G.indexAddr rfl trivial rfl rfl Try.underlying31 I86 rfl rfl (by omega) ?_
      refine G.fieldAddr rfl trivial rfl rfl Try.underlying86 rfl I2 rfl rfl ?_
      refine G.loadAt (.next .here) rfl trivial rfl rfl Try.underlying2 rfl rfl o1 ?_
      refine G.moveI rfl trivial rfl rfl rfl ?_
      refine G.bin rfl trivial rfl rfl rfl rfl rfl ?_
      refine G.nil ?_
      refine C.cond _ rfl ?_ ?_
      · intro hc2
        refine C.region ?_
        refine G.moveS rfl trivial rfl rfl rfl ?_
        refine G.moveP rfl trivial rfl rfl rfl ?_
        first | refine G.nilCheckP rfl trivial rfl rfl rfl ?_ | refine G.nilCheckF rfl trivial rfl rfl rfl ?_
        refine G.fieldAddr rfl trivial rfl rfl Try.underlying33 rfl I31 rfl rfl ?_
        refine G.loadAt (by first | exact .here | exact .next .here | exact .next (.next .here) | exact .next (.next (.next .here)) | exact .next (.next (.next (.next .here))) | exact .next (.next (.next (.next (.next .here)))) | exact .next (.next (.next (.next (.next (.next .here))))) | exact .next (.next (.next (.next (.next (.next (.next .here)))))) | exact .in1 | exact .next .in1 | exact .next (.next .in1) | exact .next (.next (.next .in1)) | exact .next (.next (.next (.next .in1))) | exact .in2 | exact .next .in2 | exact .next (.next .in2) | exact .next (.next (.next .in2)) | exact .next (.next (.next (.next .in2))) | exact .app .here | exact .app (.next .here) | exact .app (.next (.next .here)) | exact .app (.next (.next (.next .here))) | exact .app (.next (.next (.next (.next .here)))) | exact .app (.next (.next (.next (.next (.next .here))))) | exact .app (.next (.next (.next (.next (.next (.next .here)))))) | exact .app (.next (.next (.next (.next (.next (.next (.next .here))))))) | exact .app .in1 | exact .app .in2 | exact .app (.next .in1) | exact .next (.app .in1) | exact .next (.next (.app .in1)) | exact .next (.app .here) | exact .next (.next (.app .here)) | exact .next (.next (.next (.app .here))) | exact .next (.next (.next (.next (.app .here))))) rfl trivial rfl rfl Try.underlying31 rfl rfl (by rfl) ?_
        refine G.moveI rfl trivial rfl rfl rfl ?_
        refine G.indexAddr rfl trivial rfl rfl Try.underlying31 I86 rfl rfl (by omega) ?_
        refine G.loadAgg (edC es[i]) rfl trivial rfl rfl Try.underlying86 rfl I86 rfl rfl (fun w hm => agg_of_row hm (.next .here) (by have h := row_chunk (rs := []) (f := edC) (k := 2) (fun _ _ => rfl) hlt; rw [List.append_nil] at h; exact h)) ?_
        refine G.buildSliceL (cs := edC es[i]) (zs := [(.int .i64 0), (.int .i64 0)]) rfl trivial rfl rfl Try.underlying31 I86 rfl (by kernel_rfl) rfl rfl ?_
        intro b41
        refine G.less (fun _ h => h.perm2) ?_
        refine G.append hon rfl trivial rfl rfl Try.underlying31 Try.underlying31 I86 rfl (by decide) rfl rfl (by decide) (Rd.row0 (.next .here)) rfl (edC_ok _) (by omega) ?_
        intro v42 s42 hv42
        obtain ⟨a42, c42, rfl, _⟩ := hv42.form
        refine G.assignS rfl trivial rfl rfl rfl ?_
        refine G.nil ?_
        refine C.region ?_
        refine G.moveI rfl trivial rfl rfl rfl ?_
        refine G.addN (j := 1) rfl trivial rfl rfl rfl rfl (by omega) ?_
        refine G.assignI rfl trivial rfl rfl rfl ?_
        refine G.less (fun _ h => h.skip1) ?_
        refine G.nil ?_
        have e1 : fromNot t (es.take (i + 1)) = fromNot t (es.take i) ++ [es[i]] := by rw [hsn, if_pos hc2]
        exact ⟨es.length - (i + 1) + 0, by omega, i + 1, a42, c42, s42, rfl, by omega, by rw [e1, List.length_append, List.flatMap_append]; simpa using hv42, rfl, rfl, rfl, by rw [e1, List.length_append]; rfl, rfl, rfl, rfl⟩
      · intro hc2
        refine C.skip ?_
        refine C.region ?_
        refine G.moveI rfl trivial rfl rfl rfl ?_
        refine G.addN (j := 1) rfl trivial rfl rfl rfl rfl (by omega) ?_
        refine G.assignI rfl trivial rfl rfl rfl ?_
        refine G.nil ?_
        have e1 : fromNot t (es.take (i + 1)) = fromNot t (es.take i) := by rw [hsn, if_neg hc2]
        exact ⟨es.length - (i + 1) + 0, by omega, i + 1, ao, co, so, rfl, by omega, by rw [e1]; exact hon, rfl, rfl, rfl, by rw [e1]; rfl, rfl, rfl, rfl⟩
    · intro hc1
      rw [List.take_of_length_le (show es.length ≤ i by omega)] at hon h7 ⊢
      have hfl := fromNot_le t es
      refine C.exit ?_
      refine C.seq ?_
      refine C.seq ?_
      refine C.region ?_
      refine G.assignI rfl trivial rfl rfl rfl ?_
      refine G.nil ?_
      refine C.block ?_
      refine C.loop (fun m F D' L' => ∃ (i : Nat) (ao : Option Addr) (co : Nat) (so : Seg), m = xs.length - i + 0 ∧ i ≤ xs.length ∧ OwnS (.slice ao (setE t (xs.take i) es).length co) (setE t (xs.take i) es).length ((setE t (xs.take i) es).flatMap edC) 86 2 so ∧ F 0 = .pointer (some ⟨bw, 0, none⟩) ∧ F 1 = .int .i64 t ∧ F 2 = .slice a xs.length c ∧ F 7 = .slice ao (setE t (xs.take i) es).length co ∧ F 9 = .int .i64 (i : Int) ∧ D' = [] ∧ so :: s1 :: [(bw, .row [.slice av es.length cv] 33 1)] :: L0 = L') ⟨_, ⟨0, ao, co, so, rfl, Nat.zero_le _, by simpa [setE] using hon, rfl, rfl, rfl, by simp [setE]; rfl, rfl, rfl, rfl⟩⟩ ?_
      rintro m F D' L' ⟨i, ao, co, so, rfl, hi, hon, h0, h1, h2, h7, h9, rfl, rfl⟩
      refine C.fix (d := 0) h0 ?_
      refine C.fix (d := 1) h1 ?_
      refine C.fix (d := 2) h2 ?_
      refine C.fix (d := 7) h7 ?_
      refine C.fix (d := 9) h9 ?_
      refine C.seq ?_
      refine C.seq ?_
      refine C.region ?_
      refine G.moveI rfl trivial rfl rfl rfl ?_
      refine G.moveS rfl trivial rfl rfl rfl ?_
      refine G.lenSlice rfl trivial rfl rfl Try.underlying27 rfl ?_
      refine G.bin rfl trivial rfl rfl rfl rfl rfl ?_
      refine G.nil ?_
      refine C.cond _ rfl ?_ ?_
      · intro hc3
        have hlt : i < xs.length := by omega
        obtain ⟨p, o, hao, _⟩ := hr.some_ (by simp; omega)
        subst hao
        have hsl : (setE t (xs.take i) es).length = (fromNot t es).length + i := by unfold setE; simp; omega
        have e1 : setE t (xs.take (i + 1)) es = setE t (xs.take i) es ++ [(t, xs[i]!)] := by unfold setE; rw [take_snoc hlt]; simp
        refine C.skip ?_
        refine C.seq ?_
        refine C.block ?_
        refine C.region ?_
        refine G.moveS rfl trivial rfl rfl rfl ?_
        refine G.moveI rfl trivial rfl rfl rfl ?_
        refine G.moveS rfl trivial rfl rfl rfl ?_
        refine G.moveI rfl trivial rfl rfl rfl ?_
        refine G.indexAddr rfl trivial rfl rfl Try.underlying27 I2 rfl rfl (by omega) ?_
        refine G.load rfl trivial rfl rfl Try.underlying2 rfl rfl (rd_at (hr0 s1 _).cons hlt) ?_
        refine G.buildL (cs := edC (t, xs[i]!)) rfl trivial rfl rfl Try.underlying86 I86 B86 rfl rfl ?_
        refine G.buildSliceL (cs := edC (t, xs[i]!)) (zs := [(.int .i64 0), (.int .i64 0)]) rfl trivial rfl rfl Try.underlying31 I86 rfl (by kernel_rfl) rfl rfl ?_
        intro b56
        refine G.less (fun _ h => h.perm2) ?_
        refine G.append hon rfl trivial rfl rfl Try.underlying31 Try.underlying31 I86 rfl (by decide) rfl rfl (by decide) (Rd.row0 (.next .here)) rfl (edC_ok _) (by omega) ?_
        intro v57 s57 hv57
        obtain ⟨a57, c57, rfl, _⟩ := hv57.form
        refine G.assignS rfl trivial rfl rfl rfl ?_
        refine G.nil ?_
        refine C.region ?_
        refine G.moveI rfl trivial rfl rfl rfl ?_
        refine G.addN (j := 1) rfl trivial rfl rfl rfl rfl (by omega) ?_
        refine G.assignI rfl trivial rfl rfl rfl ?_
        refine G.less (fun _ h => h.skip1) ?_
        refine G.nil ?_
        exact ⟨xs.length - (i + 1) + 0, by omega, i + 1, a57, c57, s57, rfl, by omega, by rw [e1, List.length_append, List.flatMap_append]; simpa using hv57, rfl, rfl, rfl, by rw [e1, List.length_append]; rfl, rfl, rfl, rfl⟩
      · intro hc3
        rw [List.take_of_length_le (show xs.length ≤ i by omega)] at hon h7 ⊢
        refine C.exit ?_
        refine C.seq ?_
        refine C.region ?_
        refine G.moveP rfl trivial rfl rfl rfl ?_
        refine G.moveS rfl trivial rfl rfl rfl ?_
        first | refine G.nilCheckP rfl trivial rfl rfl rfl ?_ | refine G.nilCheckF rfl trivial rfl rfl rfl ?_
        refine G.fieldAddr rfl trivial rfl rfl Try.underlying33 rfl I31 rfl rfl ?_
        refine G.store (v := .slice _ _ _) (by first | exact .here | exact .next .here | exact .next (.next .here) | exact .next (.next (.next .here)) | exact .next (.next (.next (.next .here))) | exact .next (.next (.next (.next (.next .here)))) | exact .next (.next (.next (.next (.next (.next .here))))) | exact .next (.next (.next (.next (.next (.next (.next .here)))))) | exact .in1 | exact .next .in1 | exact .next (.next .in1) | exact .next (.next (.next .in1)) | exact .next (.next (.next (.next .in1))) | exact .in2 | exact .next .in2 | exact .next (.next .in2) | exact .next (.next (.next .in2)) | exact .next (.next (.next (.next .in2))) | exact .app .here | exact .app (.next .here) | exact .app (.next (.next .here)) | exact .app (.next (.next (.next .here))) | exact .app (.next (.next (.next (.next .here)))) | exact .app (.next (.next (.next (.next (.next .here))))) | exact .app (.next (.next (.next (.next (.next (.next .here)))))) | exact .app (.next (.next (.next (.next (.next (.next (.next .here))))))) | exact .app .in1 | exact .app .in2 | exact .app (.next .in1) | exact .next (.app .in1) | exact .next (.next (.app .in1)) | exact .next (.app .here) | exact .next (.next (.app .here)) | exact .next (.next (.next (.app .here))) | exact .next (.next (.next (.next (.app .here))))) rfl trivial rfl I31 rfl rfl rfl (by first | decide | (simp; done) | (simp; omega)) _ (by first | (simp only [List.set_cons_succ, List.set_cons_zero]; done) | (simp only [List.set_cons_succ, List.set_cons_zero]; exact rfl) | exact rfl) ?_
        refine G.nil ?_
        refine C.seq ?_
        refine C.region ?_
        refine G.assignB rfl trivial rfl rfl rfl ?_
        refine G.nil ?_
        refine C.less (fun _ h => h.skip1) ?_
        refine C.ret ?_
        -- end c0Fc1Fc3F
        exact ⟨rfl, _, Res.of (rs := [.tmp 6]) rfl rfl, true, _, so, _, .inl ⟨rfl, hno, rfl⟩, ⟨_, hon, rfl⟩, rfl, rfl⟩
end ref
/-! ### Both say the same -/
def Same (g : Int → List Int) (es : List Edge) : Prop := ∀ k, g k = insAll (gE es k)
theorem Same.rch {g : Int → List Int} {es : List Edge} (h : Same g es) (xs : List Int) (t : Int) : Rch g xs t ↔ Rch (gE es) xs t :=
  Rch.congr (fun _ => Iff.rfl) fun x y => by rw [h x, insAll_mem _ _ rfl]
theorem Same.set {g : Int → List Int} {es : List Edge} (h : Same g es) (t : Int) (xs : List Int) : Same (setG g t (insAll xs)) (setE t xs es) := by
  intro k
  unfold setG setE
  have h1 : gE (fromNot t es ++ xs.map fun x => (t, x)) k = if k = t then xs else gE es k := by
    unfold gE fromNot
    rw [List.filter_append, List.filter_filter]
    by_cases hk : k = t
    · subst hk
      rw [if_pos rfl, List.filter_eq_nil_iff.2 (by intro e _; by_cases h : e.1 = k <;> simp [h])]
      rw [List.filter_eq_self.2 (by intro e he; obtain ⟨x, _, rfl⟩ := List.mem_map.1 he; simp)]
      rw [List.nil_append, List.map_map]
      exact List.map_id xs
    · rw [if_neg hk, List.filter_eq_nil_iff (l := xs.map fun x => (t, x)).2 (by intro e he; obtain ⟨x, _, rfl⟩ := List.mem_map.1 he; simpa using fun h => hk h.symm)]
      rw [List.append_nil]
      congr 1
      apply List.filter_congr
      intro e _
      by_cases h : e.1 = k
      · simp [h, hk]
      · simp [h]
  rw [h1]
  by_cases hk : k = t
  · simp [hk]
  · rw [if_neg hk, if_neg hk, h k]
theorem Same.clear {g : Int → List Int} {es : List Edge} (h : Same g es) (t : Int) : Same (clearG g t) (noneOf t es) := by
  intro k
  have hup : ∀ l : List Int, (insAll l).Pairwise (· < ·) := fun l => insAll_up _ l rfl
  unfold clearG
  by_cases hk : k = t
  · subst hk
    rw [if_pos rfl]
    have : gE (noneOf k es) k = [] := by
      unfold gE noneOf
      rw [List.filter_filter, List.map_eq_nil_iff, List.filter_eq_nil_iff]
      intro e _
      by_cases h : e.1 = k <;> simp [h]
    rw [this]; rfl
  · rw [if_neg hk, h k]
    refine rising_one _ _ ((hup _).filter _) (hup _) fun a => ?_
    unfold without
    rw [List.mem_filter, insAll_mem _ _ rfl, insAll_mem _ _ rfl, gE_mem, gE_mem]
    unfold noneOf
    simp [hk]
end Go.Proofs.Ytomiidlbfcfpiaa
