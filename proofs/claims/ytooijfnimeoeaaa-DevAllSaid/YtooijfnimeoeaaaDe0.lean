/-
  The document's device: its memory; who is dead, a call more, a write, a flush, a crash of it, walked.
-/
import Derived.Test.YtooijfnimeoeaaaDl1
import Derived.Test.YtooijfnimeoeaaaSL9
import Derived.Test.YtooijfnimeoeaaaSLT
import Derived.Test.YtooijfnimeoeaaaSLA
namespace Go.Proofs.Ytooijfnimeoeaaa
open Go Go.SL Go.RowKit

/-- bytes in memory: their block, room, cells, bytes -/
abbrev WB := Nat × Nat × Nat × List UInt8
def wslot (e : WB) : Value := .slice (some ⟨e.1, 0, none⟩) e.2.2.2.length e.2.1
def wblk (e : WB) : Nat × SObj := (e.1, .row (bytesV e.2.2.2) 5 e.2.2.1)
abbrev wRow (vN vS vL : Value) (c f : Int) : List Value := [vN, vS, vL, .int .i64 c, .int .i64 f]
abbrev wSeg (bw : Nat) (vN vS vL : Value) (c f : Int) : Seg := [(bw, .row (wRow vN vS vL c f) 30 5)]
abbrev vsl (b n c : Nat) : Value := .slice (some ⟨b, 0, none⟩) n c
def nextF (f : Int) : Int := if 0 < f then f - 1 else f
/-- the document's device, with these sectors -/
def WIs (bw : Nat) (l : List Sec) (c f : Int) (W sN sS sL P : Seg) : Prop := ∃ (ns ss pl : List WB) (bn cn kn bS cS kS bl cl kl : Nat),
  W = wSeg bw (vsl bn l.length cn) (vsl bS l.length cS) (vsl bl l.length cl) c f ∧ sN = [(bn, .row (ns.map wslot) 31 kn)] ∧ sS = [(bS, .row (ss.map wslot) 31 kS)] ∧ sL = [(bl, .row (l.map fun s => Value.bool s.loose) 4 kl)] ∧ P = pl.map wblk ∧
  (∀ e ∈ ns, e ∈ pl) ∧ (∀ e ∈ ss, e ∈ pl) ∧ ns.map (·.2.2.2) = l.map (·.now) ∧ ss.map (·.2.2.2) = l.map (·.lasts)
theorem wslot_at {ns : List WB} {i : Nat} (h : i < ns.length) : (ns.map wslot)[0 + (i : Int).toNat * 1]? = some (wslot ns[i]) := by simp [h]
theorem wloose_at {l : List Sec} {i : Nat} (h : i < l.length) : (l.map fun s => Value.bool s.loose)[0 + (i : Int).toNat * 1]? = some (.bool l[i].loose) := by simp [h]
theorem wslot_ok (e : WB) : cellsOk (wslot e) = true := rfl
theorem pool_rd {W0 : World} {L : List Seg} {pl : List WB} {e : WB} (h : e ∈ pl) : Rd W0 (pl.map wblk :: L) (some ⟨e.1, 0, none⟩) (bytesV e.2.2.2) := by
  obtain ⟨s, t, rfl⟩ := List.append_of_mem h
  rw [List.map_append, List.map_cons]
  exact Rd.row0 (At.mid (s1 := s.map wblk))
theorem map_eq_at {α β γ : Type} {f : α → γ} {g : β → γ} {a : List α} {b : List β} (h : a.map f = b.map g) {i : Nat} (ha : i < a.length) (hb : i < b.length) : f a[i] = g b[i] := by
  have := congrArg (fun l => l[i]?) h
  simpa [ha, hb] using this
theorem map_modify_same {α β : Type} (g : α → β) (f : α → α) (h : ∀ x, g (f x) = g x) (i : Nat) (l : List α) : (l.modify i f).map g = l.map g := by
  apply List.ext_getElem?
  intro j
  simp only [List.getElem?_map, List.getElem?_modify]
  cases l[j]? with
  | none => rfl
  | some x => by_cases hj : i = j <;> simp [hj, h]
theorem pool_in {W0 w : World} {x : Nat × SObj} {A B C D P : Seg} {L : List Seg} (h : Mem W0 w ([x] :: A :: B :: C :: D :: P :: L)) : Mem W0 w (A :: B :: C :: D :: (x :: P) :: L) :=
  h.of_flat (List.perm_append_comm_assoc [[x]] [A, B, C, D] (P :: L)).flatten
section world
variable (W0 : World) (bw : Nat)
theorem wdead_spec (vN vS vL : Value) (c f : Int) (L : List Seg) : FnS Try.prog W0 12 #[ptr bw] (wSeg bw vN vS vL c f :: L) (fun e L' => L' = wSeg bw vN vS vL c f :: L ∧ e = .returned (.bool (decide (f = 0)))) := by
  refine FnS.of (args := [ptr bw]) Try.func12 rfl rfl ?_
  refine C.seq ?_
  refine C.region ?_
  refine G.assignB rfl trivial rfl rfl rfl ?_
  refine G.nil ?_
  refine C.seq ?_
  refine C.region ?_
  refine G.moveP rfl trivial rfl rfl rfl ?_
  first | refine G.nilCheckP rfl trivial rfl rfl rfl ?_ | refine G.nilCheckF rfl trivial rfl rfl rfl ?_
  refine G.fieldAddr rfl trivial rfl rfl Try.underlying30 rfl I3 rfl rfl ?_
  refine G.loadAt (by first | exact .here | exact .next .here | exact .next (.next .here) | exact .next (.next (.next .here)) | exact .next (.next (.next (.next .here))) | exact .next (.next (.next (.next (.next .here)))) | exact .next (.next (.next (.next (.next (.next .here))))) | exact .next (.next (.next (.next (.next (.next (.next .here)))))) | exact .in1 | exact .next .in1 | exact .next (.next .in1) | exact .next (.next (.next .in1)) | exact .next (.next (.next (.next .in1))) | exact .in2 | exact .next .in2 | exact .next (.next .in2) | exact .next (.next (.next .in2)) | exact .next (.next (.next (.next .in2))) | exact .app .here | exact .app (.next .here) | exact .app (.next (.next .here)) | exact .app (.next (.next (.next .here))) | exact .app (.next (.next (.next (.next .here)))) | exact .app (.next (.next (.next (.next (.next .here))))) | exact .app (.next (.next (.next (.next (.next (.next .here)))))) | exact .app (.next (.next (.next (.next (.next (.next (.next .here))))))) | exact .app .in1 | exact .app .in2 | exact .app (.next .in1) | exact .next (.app .in1) | exact .next (.next (.app .in1)) | exact .next (.app .here) | exact .next (.next (.app .here)) | exact .next (.next (.next (.app .here))) | exact .next (.next (.next (.next (.app .here))))) rfl trivial rfl rfl Try.underlying3 rfl rfl (by rfl) ?_
  refine G.bin rfl trivial rfl rfl rfl rfl rfl ?_
  refine G.assignB rfl trivial rfl rfl rfl ?_
  refine G.nil ?_
  refine C.ret ?_
  -- end 
  exact ⟨rfl, _, Res.of (rs := [.tmp 2]) rfl rfl, rfl, rfl⟩
theorem wnext_spec (vN vS vL : Value) (c f : Int) (hf : -1 ≤ f ∧ f ≤ 9223372036854775807) (L : List Seg) : FnS Try.prog W0 28 #[ptr bw] (wSeg bw vN vS vL c f :: L) (fun e L' => L' = wSeg bw vN vS vL (inc c) (nextF f) :: L ∧ e = .returned (.tuple #[])) := by
  refine FnS.of (args := [ptr bw]) Try.func28 rfl rfl ?_
  refine C.seq ?_
  refine C.region ?_
  refine G.moveP rfl trivial rfl rfl rfl ?_
  first | refine G.nilCheckP rfl trivial rfl rfl rfl ?_ | refine G.nilCheckF rfl trivial rfl rfl rfl ?_
  refine G.fieldAddr rfl trivial rfl rfl Try.underlying30 rfl I3 rfl rfl ?_
  refine G.loadAt (by first | exact .here | exact .next .here | exact .next (.next .here) | exact .next (.next (.next .here)) | exact .next (.next (.next (.next .here))) | exact .next (.next (.next (.next (.next .here)))) | exact .next (.next (.next (.next (.next (.next .here))))) | exact .next (.next (.next (.next (.next (.next (.next .here)))))) | exact .in1 | exact .next .in1 | exact .next (.next .in1) | exact .next (.next (.next .in1)) | exact .next (.next (.next (.next .in1))) | exact .in2 | exact .next .in2 | exact .next (.next .in2) | exact .next (.next (.next .in2)) | exact .next (.next (.next (.next .in2))) | exact .app .here | exact .app (.next .here) | exact .app (.next (.next .here)) | exact .app (.next (.next (.next .here))) | exact .app (.next (.next (.next (.next .here)))) | exact .app (.next (.next (.next (.next (.next .here))))) | exact .app (.next (.next (.next (.next (.next (.next .here)))))) | exact .app (.next (.next (.next (.next (.next (.next (.next .here))))))) | exact .app .in1 | exact .app .in2 | exact .app (.next .in1) | exact .next (.app .in1) | exact .next (.next (.app .in1)) | exact .next (.app .here) | exact .next (.next (.app .here)) | exact .next (.next (.next (.app .here))) | exact .next (.next (.next (.next (.app .here))))) rfl trivial rfl rfl Try.underlying3 rfl rfl (by rfl) ?_
  refine G.bin rfl trivial rfl rfl rfl rfl rfl ?_
  first | refine G.nilCheckP rfl trivial rfl rfl rfl ?_ | refine G.nilCheckF rfl trivial rfl rfl rfl ?_
  refine G.fieldAddr rfl trivial rfl rfl Try.underlying30 rfl I3 rfl rfl ?_
  refine G.store (v := .int _ _) (by first | exact .here | exact .next .here | exact .next (.next .here) | exact .next (.next (.next .here)) | exact .next (.next (.next (.next .here))) | exact .next (.next (.next (.next (.next .here)))) | exact .next (.next (.next (.next (.next (.next .here))))) | exact .next (.next (.next (.next (.next (.next (.next .here)))))) | exact .in1 | exact .next .in1 | exact .next (.next .in1) | exact .next (.next (.next .in1)) | exact .next (.next (.next (.next .in1))) | exact .in2 | exact .next .in2 | exact .next (.next .in2) | exact .next (.next (.next .in2)) | exact .next (.next (.next (.next .in2))) | exact .app .here | exact .app (.next .here) | exact .app (.next (.next .here)) | exact .app (.next (.next (.next .here))) | exact .app (.next (.next (.next (.next .here)))) | exact .app (.next (.next (.next (.next (.next .here))))) | exact .app (.next (.next (.next (.next (.next (.next .here)))))) | exact .app (.next (.next (.next (.next (.next (.next (.next .here))))))) | exact .app .in1 | exact .app .in2 | exact .app (.next .in1) | exact .next (.app .in1) | exact .next (.next (.app .in1)) | exact .next (.app .here) | exact .next (.next (.app .here)) | exact .next (.next (.next (.app .here))) | exact .next (.next (.next (.next (.app .here))))) rfl trivial rfl I3 rfl rfl rfl (by first | decide | (simp; done) | (simp; omega)) _ (by first | (simp only [List.set_cons_succ, List.set_cons_zero]; done) | (simp only [List.set_cons_succ, List.set_cons_zero]; exact rfl) | exact rfl) ?_
  refine G.nil ?_
  refine C.seq ?_
  refine C.region ?_
  refine G.moveP rfl trivial rfl rfl rfl ?_
  first | refine G.nilCheckP rfl trivial rfl rfl rfl ?_ | refine G.nilCheckF rfl trivial rfl rfl rfl ?_
  refine G.fieldAddr rfl trivial rfl rfl Try.underlying30 rfl I3 rfl rfl ?_
  refine G.loadAt (by first | exact .here | exact .next .here | exact .next (.next .here) | exact .next (.next (.next .here)) | exact .next (.next (.next (.next .here))) | exact .next (.next (.next (.next (.next .here)))) | exact .next (.next (.next (.next (.next (.next .here))))) | exact .next (.next (.next (.next (.next (.next (.next .here)))))) | exact .in1 | exact .next .in1 | exact .next (.next .in1) | exact .next (.next (.next .in1)) | exact .next (.next (.next (.next .in1))) | exact .in2 | exact .next .in2 | exact .next (.next .in2) | exact .next (.next (.next .in2)) | exact .next (.next (.next (.next .in2))) | exact .app .here | exact .app (.next .here) | exact .app (.next (.next .here)) | exact .app (.next (.next (.next .here))) | exact .app (.next (.next (.next (.next .here)))) | exact .app (.next (.next (.next (.next (.next .here))))) | exact .app (.next (.next (.next (.next (.next (.next .here)))))) | exact .app (.next (.next (.next (.next (.next (.next (.next .here))))))) | exact .app .in1 | exact .app .in2 | exact .app (.next .in1) | exact .next (.app .in1) | exact .next (.next (.app .in1)) | exact .next (.app .here) | exact .next (.next (.app .here)) | exact .next (.next (.next (.app .here))) | exact .next (.next (.next (.next (.app .here))))) rfl trivial rfl rfl Try.underlying3 rfl rfl (by rfl) ?_
  refine G.bin rfl trivial rfl rfl rfl rfl rfl ?_
  refine G.nil ?_
  refine C.cond _ rfl ?_ ?_
  · intro hc0
    refine C.region ?_
    refine G.moveP rfl trivial rfl rfl rfl ?_
    first | refine G.nilCheckP rfl trivial rfl rfl rfl ?_ | refine G.nilCheckF rfl trivial rfl rfl rfl ?_
    refine G.fieldAddr rfl trivial rfl rfl Try.underlying30 rfl I3 rfl rfl ?_
    refine G.loadAt (by first | exact .here | exact .next .here | exact .next (.next .here) | exact .next (.next (.next .here)) | exact .next (.next (.next (.next .here))) | exact .next (.next (.next (.next (.next .here)))) | exact .next (.next (.next (.next (.next (.next .here))))) | exact .next (.next (.next (.next (.next (.next (.next .here)))))) | exact .in1 | exact .next .in1 | exact .next (.next .in1) | exact .next (.next (.next .in1)) | exact .next (.next (.next (.next .in1))) | exact .in2 | exact .next .in2 | exact .next (.next .in2) | exact .next (.next (.next .in2)) | exact .next (.next (.next (.next .in2))) | exact .app .here | exact .app (.next .here) | exact .app (.next (.next .here)) | exact .app (.next (.next (.next .here))) | exact .app (.next (.next (.next (.next .here)))) | exact .app (.next (.next (.next (.next (.next .here))))) | exact .app (.next (.next (.next (.next (.next (.next .here)))))) | exact .app (.next (.next (.next (.next (.next (.next (.next .here))))))) | exact .app .in1 | exact .app .in2 | exact .app (.next .in1) | exact .next (.app .in1) | exact .next (.next (.app .in1)) | exact .next (.app .here) | exact .next (.next (.app .here)) | exact .next (.next (.next (.app .here))) | exact .next (.next (.next (.next (.app .here))))) rfl trivial rfl rfl Try.underlying3 rfl rfl (by rfl) ?_
    refine G.sub rfl trivial rfl rfl rfl rfl (by omega) ?_
    first | refine G.nilCheckP rfl trivial rfl rfl rfl ?_ | refine G.nilCheckF rfl trivial rfl rfl rfl ?_
    refine G.fieldAddr rfl trivial rfl rfl Try.underlying30 rfl I3 rfl rfl ?_
    refine G.store (v := .int _ _) (by first | exact .here | exact .next .here | exact .next (.next .here) | exact .next (.next (.next .here)) | exact .next (.next (.next (.next .here))) | exact .next (.next (.next (.next (.next .here)))) | exact .next (.next (.next (.next (.next (.next .here))))) | exact .next (.next (.next (.next (.next (.next (.next .here)))))) | exact .in1 | exact .next .in1 | exact .next (.next .in1) | exact .next (.next (.next .in1)) | exact .next (.next (.next (.next .in1))) | exact .in2 | exact .next .in2 | exact .next (.next .in2) | exact .next (.next (.next .in2)) | exact .next (.next (.next (.next .in2))) | exact .app .here | exact .app (.next .here) | exact .app (.next (.next .here)) | exact .app (.next (.next (.next .here))) | exact .app (.next (.next (.next (.next .here)))) | exact .app (.next (.next (.next (.next (.next .here))))) | exact .app (.next (.next (.next (.next (.next (.next .here)))))) | exact .app (.next (.next (.next (.next (.next (.next (.next .here))))))) | exact .app .in1 | exact .app .in2 | exact .app (.next .in1) | exact .next (.app .in1) | exact .next (.next (.app .in1)) | exact .next (.app .here) | exact .next (.next (.app .here)) | exact .next (.next (.next (.app .here))) | exact .next (.next (.next (.next (.app .here))))) rfl trivial rfl I3 rfl rfl rfl (by first | decide | (simp; done) | (simp; omega)) _ (by first | (simp only [List.set_cons_succ, List.set_cons_zero]; done) | (simp only [List.set_cons_succ, List.set_cons_zero]; exact rfl) | exact rfl) ?_
    refine G.nil ?_
    -- end c0T
    exact ⟨rfl, _, Res.of (rs := []) rfl rfl, by unfold nextF; rw [if_pos (by assumption)]; rfl, rfl⟩
  · intro hc0
    refine C.skip ?_
    -- end c0F
    exact ⟨rfl, _, Res.of (rs := []) rfl rfl, by unfold nextF; rw [if_neg (by assumption)]; rfl, rfl⟩
theorem wwrites_spec (l : List Sec) (hl : l.length ≤ 8) (hok : ∀ s ∈ l, s.ok) (c f : Int) (hf : -1 ≤ f ∧ f ≤ 9223372036854775807) (W sN sS sL P : Seg) (h : WIs bw l c f W sN sS sL P) (L : List Seg) (i : Nat) (hi : i < l.length) (a : Option Addr) (ca : Nat) (xs : List UInt8) (hx : xs.length ≤ 64) (hr : ∀ s : Seg, Rd W0 (s :: W :: sN :: sS :: sL :: P :: L) a (bytesV xs)) :
    FnS Try.prog W0 14 #[ptr bw, .int .i64 (i : Int), .slice a xs.length ca] (W :: sN :: sS :: sL :: P :: L) (fun e L' => ∃ W' sN' sS' sL' P', WIs bw (l.modify i (·.put xs)) (inc c) (nextF f) W' sN' sS' sL' P' ∧ L' = W' :: sN' :: sS' :: sL' :: P' :: L ∧ e = .returned (.tuple #[])) := by
  obtain ⟨ns, ss, pl, bn, cn, kn, bS, cS, kS, bl, cl, kl, rfl, rfl, rfl, rfl, rfl, hn, hs, hN, hS⟩ := h
  have hnl : ns.length = l.length := by have := congrArg List.length hN; simpa using this
  have hni : i < ns.length := by omega
  have hb := map_eq_at hN hni hi
  have he := hn _ (List.getElem_mem hni)
  have h64 := (hok _ (List.getElem_mem hi)).1
  have hsl := wslot_at hni
  generalize hge : ns[i] = e1 at hb he hsl
  obtain ⟨b1, c1, k1, x1⟩ := e1
  simp only at hb
  have hx64 : x1.length = 64 := by rw [hb]; exact h64
  refine FnS.of (args := [ptr bw, .int .i64 (i : Int), .slice a xs.length ca]) Try.func14 rfl rfl ?_
  refine C.seq ?_
  refine C.region ?_
  refine G.moveP rfl trivial rfl rfl rfl ?_
  first | refine G.nilCheckP rfl trivial rfl rfl rfl ?_ | refine G.nilCheckF rfl trivial rfl rfl rfl ?_
  refine G.fieldAddr rfl trivial rfl rfl Try.underlying30 rfl I27 rfl rfl ?_
  refine G.loadAt (by first | exact .here | exact .next .here | exact .next (.next .here) | exact .next (.next (.next .here)) | exact .next (.next (.next (.next .here))) | exact .next (.next (.next (.next (.next .here)))) | exact .next (.next (.next (.next (.next (.next .here))))) | exact .next (.next (.next (.next (.next (.next (.next .here)))))) | exact .in1 | exact .next .in1 | exact .next (.next .in1) | exact .next (.next (.next .in1)) | exact .next (.next (.next (.next .in1))) | exact .in2 | exact .next .in2 | exact .next (.next .in2) | exact .next (.next (.next .in2)) | exact .next (.next (.next (.next .in2))) | exact .app .here | exact .app (.next .here) | exact .app (.next (.next .here)) | exact .app (.next (.next (.next .here))) | exact .app (.next (.next (.next (.next .here)))) | exact .app (.next (.next (.next (.next (.next .here))))) | exact .app (.next (.next (.next (.next (.next (.next .here)))))) | exact .app (.next (.next (.next (.next (.next (.next (.next .here))))))) | exact .app .in1 | exact .app .in2 | exact .app (.next .in1) | exact .next (.app .in1) | exact .next (.next (.app .in1)) | exact .next (.app .here) | exact .next (.next (.app .here)) | exact .next (.next (.next (.app .here))) | exact .next (.next (.next (.next (.app .here))))) rfl trivial rfl rfl Try.underlying27 rfl rfl (by rfl) ?_
  refine G.moveI rfl trivial rfl rfl rfl ?_
  refine G.indexAddr rfl trivial rfl rfl Try.underlying27 I31 rfl rfl (by omega) ?_
  refine G.loadAt (v := vsl b1 x1.length c1) (.next .here) rfl trivial rfl rfl Try.underlying31 rfl rfl hsl ?_
  refine G.appendNil rfl trivial rfl rfl Try.underlying31 Try.underlying31 I5 rfl (by decide) rfl (by decide) ((pool_rd he).cons.cons.cons.cons) (by simp) bytesV_ok (by omega) ?_
  intro v14 s14 hv14
  obtain ⟨bq, cq, kq, rfl, rfl, hq1, hq2⟩ := hv14.block (by omega)
  refine G.assignS rfl trivial rfl rfl rfl ?_
  refine G.nil ?_
  refine C.seq ?_
  refine C.region ?_
  refine G.moveS rfl trivial rfl rfl rfl ?_
  refine G.moveS rfl trivial rfl rfl rfl ?_
  refine G.copyA (vs := bytesV xs) .here rfl trivial rfl rfl Try.underlying31 I5 rfl rfl (by decide) (by simp; omega) (hr _) bytesV_ok (by simp only [bytesV_length]; omega) (bytesV (over xs x1)) (by simp only [over, bytesV_append, List.take_zero, List.nil_append, Nat.zero_add, bytesV_length, bytesV_drop]) ?_
  refine G.nil ?_
  refine C.seq ?_
  refine C.drawn mixed ([wSeg bw (vsl bn l.length cn) (vsl bS l.length cS) (vsl bl l.length cl) c f]) [] (fun _ h => h.tail.fewer (by simp)) ?_
  refine GA.pure (i := 0) (fun _ _ _ _ _ h => h) rfl (by kernel_rfl) trivial rfl rfl (Y.moveP rfl rfl) (#[true, false, false, false, false, false, false, false, false, false, false, false, false, false, false]) (by kernel_rfl) ?_
  first | refine GA.pure (i := 1) (fun _ _ _ _ _ h => h) rfl (by kernel_rfl) trivial rfl rfl (Y.nilCheckP rfl rfl) (#[true, true, false, false, false, false, false, false, false, false, false, false, false, false, false]) (by kernel_rfl) ?_ | refine GA.pure (i := 1) (fun _ _ _ _ _ h => h) rfl (by kernel_rfl) trivial rfl rfl (Y.nilCheckF rfl rfl) (#[true, true, false, false, false, false, false, false, false, false, false, false, false, false, false]) (by kernel_rfl) ?_
  refine GA.pure (i := 2) (fun _ _ _ _ _ h => h) rfl (by kernel_rfl) trivial rfl rfl (Y.fieldAddr rfl Try.underlying30 rfl I27 rfl rfl) (#[true, true, true, false, false, false, false, false, false, false, false, false, false, false, false]) (by kernel_rfl) ?_
  refine GA.read (i := 3) (fun _ _ _ _ _ h => h) rfl (by kernel_rfl) (by kernel_rfl) trivial rfl rfl (Y.loadAt (by first | exact .here | exact .next .here | exact .next (.next .here) | exact .next (.next (.next .here)) | exact .next (.next (.next (.next .here))) | exact .next (.next (.next (.next (.next .here)))) | exact .next (.next (.next (.next (.next (.next .here))))) | exact .next (.next (.next (.next (.next (.next (.next .here)))))) | exact .in1 | exact .next .in1 | exact .next (.next .in1) | exact .next (.next (.next .in1)) | exact .next (.next (.next (.next .in1))) | exact .in2 | exact .next .in2 | exact .next (.next .in2) | exact .next (.next (.next .in2)) | exact .next (.next (.next (.next .in2))) | exact .app .here | exact .app (.next .here) | exact .app (.next (.next .here)) | exact .app (.next (.next (.next .here))) | exact .app (.next (.next (.next (.next .here)))) | exact .app (.next (.next (.next (.next (.next .here))))) | exact .app (.next (.next (.next (.next (.next (.next .here)))))) | exact .app (.next (.next (.next (.next (.next (.next (.next .here))))))) | exact .app .in1 | exact .app .in2 | exact .app (.next .in1) | exact .next (.app .in1) | exact .next (.next (.app .in1)) | exact .next (.app .here) | exact .next (.next (.app .here)) | exact .next (.next (.next (.app .here))) | exact .next (.next (.next (.next (.app .here))))) rfl Try.underlying27 rfl rfl (by rfl)) (#[true, true, true, true, false, false, false, false, false, false, false, false, false, false, false]) (by kernel_rfl) ?_
  refine GA.pure (i := 4) (fun _ _ _ _ _ h => h) rfl (by kernel_rfl) trivial rfl rfl (Y.moveI rfl rfl) (#[true, true, true, true, true, false, false, false, false, false, false, false, false, false, false]) (by kernel_rfl) ?_
  refine GA.pure (i := 5) (fun _ _ _ _ _ h => h) rfl (by kernel_rfl) trivial rfl rfl (Y.moveP rfl rfl) (#[true, true, true, true, true, true, false, false, false, false, false, false, false, false, false]) (by kernel_rfl) ?_
  first | refine GA.pure (i := 6) (fun _ _ _ _ _ h => h) rfl (by kernel_rfl) trivial rfl rfl (Y.nilCheckP rfl rfl) (#[true, true, true, true, true, true, true, false, false, false, false, false, false, false, false]) (by kernel_rfl) ?_ | refine GA.pure (i := 6) (fun _ _ _ _ _ h => h) rfl (by kernel_rfl) trivial rfl rfl (Y.nilCheckF rfl rfl) (#[true, true, true, true, true, true, true, false, false, false, false, false, false, false, false]) (by kernel_rfl) ?_
  refine GA.pure (i := 7) (fun _ _ _ _ _ h => h) rfl (by kernel_rfl) trivial rfl rfl (Y.fieldAddr rfl Try.underlying30 rfl I28 rfl rfl) (#[true, true, true, true, true, true, true, true, false, false, false, false, false, false, false]) (by kernel_rfl) ?_
  refine GA.read (i := 8) (fun _ _ _ _ _ h => h) rfl (by kernel_rfl) (by kernel_rfl) trivial rfl rfl (Y.loadAt (by first | exact .here | exact .next .here | exact .next (.next .here) | exact .next (.next (.next .here)) | exact .next (.next (.next (.next .here))) | exact .next (.next (.next (.next (.next .here)))) | exact .next (.next (.next (.next (.next (.next .here))))) | exact .next (.next (.next (.next (.next (.next (.next .here)))))) | exact .in1 | exact .next .in1 | exact .next (.next .in1) | exact .next (.next (.next .in1)) | exact .next (.next (.next (.next .in1))) | exact .in2 | exact .next .in2 | exact .next (.next .in2) | exact .next (.next (.next .in2)) | exact .next (.next (.next (.next .in2))) | exact .app .here | exact .app (.next .here) | exact .app (.next (.next .here)) | exact .app (.next (.next (.next .here))) | exact .app (.next (.next (.next (.next .here)))) | exact .app (.next (.next (.next (.next (.next .here))))) | exact .app (.next (.next (.next (.next (.next (.next .here)))))) | exact .app (.next (.next (.next (.next (.next (.next (.next .here))))))) | exact .app .in1 | exact .app .in2 | exact .app (.next .in1) | exact .next (.app .in1) | exact .next (.next (.app .in1)) | exact .next (.app .here) | exact .next (.next (.app .here)) | exact .next (.next (.next (.app .here))) | exact .next (.next (.next (.next (.app .here))))) rfl Try.underlying28 rfl rfl (by rfl)) (#[true, true, true, true, true, true, true, true, true, false, false, false, false, false, false]) (by kernel_rfl) ?_
  refine GA.pure (i := 9) (fun _ _ _ _ _ h => h) rfl (by kernel_rfl) trivial rfl rfl (Y.moveI rfl rfl) (#[true, true, true, true, true, true, true, true, true, true, false, false, false, false, false]) (by kernel_rfl) ?_
  refine GA.pure (i := 10) (fun _ _ _ _ _ h => h) rfl (by kernel_rfl) trivial rfl rfl (Y.moveS rfl rfl) (#[true, true, true, true, true, true, true, true, true, true, true, false, false, false, false]) (by kernel_rfl) ?_
  refine GA.pure (i := 11) (fun _ _ _ _ _ h => h) rfl (by kernel_rfl) trivial rfl rfl (Y.indexAddr rfl Try.underlying27 I31 rfl rfl (by omega)) (#[true, true, true, true, true, true, true, true, true, true, true, true, false, false, false]) (by kernel_rfl) ?_
  refine GA.one (i := 12) rfl (by kernel_rfl) (#[true, true, true, true, true, true, true, true, true, true, true, true, true, false, false]) (by kernel_rfl) ?_
  refine G.store (v := vsl bq x1.length cq) (.next (.next .here)) rfl trivial rfl I31 rfl rfl rfl (by simp; omega) ((ns.set i (bq, cq, kq, over xs x1)).map wslot) (by rw [List.map_set]; simp [wslot, over_length (show xs.length ≤ x1.length by omega)]) ?_
  refine G.nil ?_
  refine ⟨fun _ _ h => h.tail.fewer (by simp), ?_⟩
  refine GA.pure (i := 13) (fun _ _ _ _ _ h => h) rfl (by kernel_rfl) trivial rfl rfl (Y.indexAddr rfl Try.underlying28 I4 rfl rfl (by omega)) (#[true, true, true, true, true, true, true, true, true, true, true, true, true, true, false]) (by kernel_rfl) ?_
  refine GA.one (i := 14) rfl (by kernel_rfl) (#[true, true, true, true, true, true, true, true, true, true, true, true, true, true, true]) (by kernel_rfl) ?_
  refine G.store (v := .bool true) (.next (.next (.next (.next .here)))) rfl trivial rfl I4 rfl rfl rfl (by simp; omega) ((l.modify i (·.put xs)).map fun (s : Sec) => Value.bool s.loose) (by rw [← set_modify hi, List.map_set]; simp [Sec.put]) ?_
  refine G.nil ?_
  refine ⟨fun _ _ h => h.tail.fewer (by simp), ?_⟩
  refine GA.done (by kernel_rfl) ?_
  refine C.region ?_
  refine G.less (L' := wSeg bw (vsl bn l.length cn) (vsl bS l.length cS) (vsl bl l.length cl) c f :: [(bn, .row ((ns.set i (bq, cq, kq, over xs x1)).map wslot) 31 kn)] :: [(bS, .row (ss.map wslot) 31 kS)] :: [(bl, .row ((l.modify i (·.put xs)).map fun (s : Sec) => Value.bool s.loose) 4 kl)] :: ((bq, cq, kq, over xs x1) :: pl).map wblk :: L) (fun _ h => pool_in h) ?_
  refine G.moveP rfl trivial rfl rfl rfl ?_
  refine G.call E28 rfl rfl trivial rfl rfl (wnext_spec W0 bw _ _ _ c f hf _) rfl ?_
  rintro e L2 ⟨rfl, rfl⟩
  refine G.nil ?_
  -- end 
  exact ⟨rfl, _, Res.of (rs := []) rfl rfl, _, _, _, _, _, ⟨ns.set i (bq, cq, kq, over xs x1), ss, (bq, cq, kq, over xs x1) :: pl, bn, cn, kn, bS, cS, kS, bl, cl, kl, by rw [List.length_modify], rfl, rfl, rfl, rfl, fun e he2 => (by rcases List.mem_or_eq_of_mem_set he2 with h2 | h2; exact List.mem_cons_of_mem _ (hn e h2); rw [h2]; exact List.mem_cons_self), fun e he2 => List.mem_cons_of_mem _ (hs e he2), by rw [List.map_set, hN, ← set_modify hi, List.map_set]; simp [Sec.put, hb], by rw [hS]; exact (map_modify_same (fun s : Sec => s.lasts) (fun s : Sec => s.put xs) (fun _ => rfl) i l).symm⟩, rfl, rfl⟩
end world
end Go.Proofs.Ytooijfnimeoeaaa
