/-
  The device in blocks of any capacity: a crash.
-/
import Derived.Test.YtokggoikffcijaaGreatDoorGv2
namespace Go.Proofs.YtokggoikffcijaaGreatDoor
open Go Go.SL Go.RowKit
/-- what a sector holds behind a crash -/
def kept (ks : List Bool) (s : Sec) (j : Nat) : List UInt8 := if s.loose && (ks[j]?.getD false) then s.now else s.lasts
def crashFrom (ks : List Bool) : List Sec → Nat → List (List UInt8)
  | [], _ => []
  | s :: l, j => kept ks s j :: crashFrom ks l (if s.loose then j + 1 else j)
def both (x : List UInt8) : Sec := { now := x, lasts := x, loose := false }
def Dv.crash (d : Dv) (ks : List Bool) : Dv := { newDv d.l.length with l := (crashFrom ks d.l 0).map both }
def loosN (l : List Sec) : Nat := l.countP (·.loose)
theorem crashFrom_length (ks : List Bool) : ∀ (l : List Sec) (j : Nat), (crashFrom ks l j).length = l.length
  | [], _ => rfl
  | s :: l, j => by simp [crashFrom, crashFrom_length ks l]
theorem crashFrom_append (ks : List Bool) : ∀ (a b : List Sec) (j : Nat), crashFrom ks (a ++ b) j = crashFrom ks a j ++ crashFrom ks b (j + loosN a)
  | [], b, j => by simp [crashFrom, loosN]
  | s :: a, b, j => by
    simp only [List.cons_append, crashFrom, crashFrom_append ks a b, loosN, List.countP_cons]
    congr 3
    split <;> omega
theorem crashFrom_snoc (ks : List Bool) {l : List Sec} {i : Nat} (hi : i < l.length) : crashFrom ks (l.take (i + 1)) 0 = crashFrom ks (l.take i) 0 ++ [kept ks l[i] (loosN (l.take i))] := by
  rw [List.take_succ_eq_append_getElem hi, crashFrom_append]
  simp [crashFrom]
theorem loosN_snoc {l : List Sec} {i : Nat} (hi : i < l.length) : loosN (l.take (i + 1)) = loosN (l.take i) + if l[i].loose then 1 else 0 := by
  unfold loosN
  rw [List.take_succ_eq_append_getElem hi, List.countP_append, List.countP_singleton]
theorem loosN_le (l : List Sec) : loosN l ≤ l.length := List.countP_le_length
theorem kept_length {ks : List Bool} {s : Sec} (h : s.ok) (j : Nat) : (kept ks s j).length = 64 := by
  unfold kept
  split
  · exact h.1
  · exact h.2
theorem crash_ok {d : Dv} (hd : d.ok) (ks : List Bool) : (d.crash ks).ok := by
  refine ⟨fun s hs => ?_, by simp [Dv.crash, crashFrom_length]; exact hd.2.1, by simp [Dv.crash, newDv], by simp [Dv.crash, newDv]⟩
  obtain ⟨x, hx, rfl⟩ := List.mem_map.1 hs
  have key : ∀ (l : List Sec) (j : Nat), (∀ s ∈ l, s.ok) → ∀ x ∈ crashFrom ks l j, x.length = 64 := by
    intro l
    induction l with
    | nil => intro j _ x hx; simp [crashFrom] at hx
    | cons s l ih =>
      intro j h x hx
      simp only [crashFrom, List.mem_cons] at hx
      rcases hx with rfl | hx
      · exact kept_length (h s (by simp)) j
      · exact ih _ (fun t ht => h t (by simp [ht])) x hx
  have := key d.l 0 hd.1 x hx
  exact ⟨this, this⟩
/-- the new sectors as far as the crash has come -/
def cr (ks : List Bool) (l : List Sec) (i : Nat) : List Sec := (crashFrom ks (l.take i) 0).map both ++ List.replicate (l.length - i) zeroSec
theorem cr_length {ks : List Bool} {l : List Sec} {i : Nat} (hi : i ≤ l.length) : (cr ks l i).length = l.length := by simp [cr, crashFrom_length]; omega
theorem cr_at {ks : List Bool} {l : List Sec} {i : Nat} (hi : i < l.length) (h : i < (cr ks l i).length) : (cr ks l i)[i] = zeroSec := by
  simp only [cr]
  rw [List.getElem_append_right (by simp [crashFrom_length]; omega)]
  simp
theorem cr_set {ks : List Bool} {l : List Sec} {i : Nat} (hi : i < l.length) : (cr ks l i).set i (both (kept ks l[i] (loosN (l.take i)))) = cr ks l (i + 1) := by
  simp only [cr]
  have hlen : ((crashFrom ks (l.take i) 0).map both).length = i := by simp [crashFrom_length]; omega
  rw [List.set_append_right _ _ (by omega), hlen, Nat.sub_self, show l.length - i = (l.length - (i + 1)) + 1 by omega, List.replicate_succ, List.set_cons_zero, crashFrom_snoc ks hi]
  simp only [List.map_append, List.map_cons, List.map_nil, List.append_assoc, List.cons_append, List.nil_append]
theorem cr_ok {ks : List Bool} {l : List Sec} (h : ∀ s ∈ l, s.ok) (i : Nat) : ∀ s ∈ cr ks l i, s.ok := by
  intro s hs
  rcases List.mem_append.1 hs with hs | hs
  · have hd : ({ newDv 0 with l := l.take i } : Dv).ok ∨ True := .inr trivial
    obtain ⟨x, hx, rfl⟩ := List.mem_map.1 hs
    have key : ∀ (l : List Sec) (j : Nat), (∀ s ∈ l, s.ok) → ∀ x ∈ crashFrom ks l j, x.length = 64 := by
      intro l
      induction l with
      | nil => intro j _ x hx; simp [crashFrom] at hx
      | cons s l ih =>
        intro j h x hx
        simp only [crashFrom, List.mem_cons] at hx
        rcases hx with rfl | hx
        · exact kept_length (h s (by simp)) j
        · exact ih _ (fun t ht => h t (by simp [ht])) x hx
    have := key (l.take i) 0 (fun s hs => h s (List.mem_of_mem_take hs)) x hx
    exact ⟨this, this⟩
  · rw [List.eq_of_mem_replicate hs]
    exact zeroSec_ok
theorem ISec : Inf Tryz.prog 119 129 129 (.agg (Sec.cs zeroSec).toArray) := Inf.of (by kernel_rfl)
theorem IArr : Inf Tryz.prog 117 64 64 (.agg (bytesV zero64).toArray) := Inf.of (by kernel_rfl)
theorem fill_both {x : List UInt8} (h : x.length = 64) : fillL [(0, 64), (64, 64), (128, 1)] (Sec.cs zeroSec) [(0, .agg (bytesV x).toArray), (1, .agg (bytesV x).toArray)] = some (Sec.cs (both x)) := by
  have hx : (Value.agg (bytesV x).toArray).cells.toList = bytesV x := rfl
  have hb : (bytesV x).length = 64 := by simp [h]
  have h0 : (Sec.cs zeroSec).length = 129 := Sec.cs_length zeroSec_ok
  have e1 : setAt (Sec.cs zeroSec) 0 (bytesV x) = Sec.cs { zeroSec with now := x } := by
    rw [setAt_eq _ _ _ (by omega)]
    have := cs_put zeroSec_ok (b := x) (by omega)
    rw [this]
    congr 1
    simp [over, h, zeroSec, zero64]
  have ok1 : ({ zeroSec with now := x } : Sec).ok := ⟨h, rfl⟩
  have h1 := Sec.cs_length ok1
  have e2 : setAt (Sec.cs { zeroSec with now := x }) 64 (bytesV x) = Sec.cs (both x) := by
    rw [setAt_eq _ _ _ (by omega), cs_setLasts ok1 h]
    rfl
  simp only [fillL, List.getElem?_cons_zero, List.getElem?_cons_succ, hx, hb, h0, e1, h1, e2]
  rfl
theorem cs_okv (s : Sec) : ∀ v ∈ Sec.cs s, cellsOk v = true := by
  intro v hv
  simp only [Sec.cs, List.mem_append, List.mem_singleton] at hv
  rcases hv with hv | hv | rfl
  · exact bytesV_ok v hv
  · exact bytesV_ok v hv
  · rfl
theorem whole {cs vs : List Value} (h : vs.length = cs.length) : cs.take 0 ++ vs ++ cs.drop (0 + vs.length) = vs := by
  rw [List.take_zero, List.drop_of_length_le (by omega)]
  simp
section dev
variable (W0 : World) (S L0 : List Seg) (kd kl bd bl : Nat) (d : Dv)
theorem now_row {d : Dv} (hd : d.ok) {i : Nat} (hi : i < d.l.length) : ∀ j v, (Sec.cs d.l[i])[j]? = some v → (secsV d.l)[129 * i + j]? = some v := fun j v hj => by
  have hs := hd.1 _ (List.getElem_mem hi)
  have : j < 129 := by rw [← Sec.cs_length hs]; exact (List.getElem?_eq_some_iff.1 hj).1
  rw [← hj]
  exact chunk_get (secs_chunk hd.1) this hi
theorem crash_spec (hd : d.ok) (h1 : 0 < d.l.length) (a : Option Addr) (c : Nat) (ks : List Bool) (hk : ks.length ≤ c) (hr : ∀ L1, Rd W0 (L1 ++ (S ++ (devSeg kd kl bd bl d :: L0))) a (ks.map Value.bool)) :
    FnS Tryz.prog W0 24 #[ptr bd, .slice a ks.length c] (S ++ (devSeg kd kl bd bl d :: L0)) (fun e L' => ∃ bd2 bl2, L' = devSeg 5 (d.l.length * 129) bd2 bl2 (d.crash ks) :: (S ++ (devSeg kd kl bd bl d :: L0)) ∧ e = .returned (ptr bd2)) := by
  have hlen := hd.2.1
  have hN : clampN (d.l.length : Int) = d.l.length := by unfold clampN; split <;> (try split) <;> omega
  refine FnS.of (args := [ptr bd, .slice a ks.length c]) Tryz.func24 rfl rfl ?_
  refine C.seq ?_
  refine C.region ?_
  refine G.assignP rfl trivial rfl rfl rfl ?_
  refine G.nil ?_
  refine C.seq ?_
  refine C.seq ?_
  refine C.region ?_
  refine G.moveP rfl trivial rfl rfl rfl ?_
  refine G.ptrEq rfl trivial rfl rfl Tryz.underlying39 rfl rfl ?_
  refine G.nil ?_
  refine C.condF rfl ?_
  refine C.skip ?_
  refine C.seq ?_
  refine C.region ?_
  refine G.moveP rfl trivial rfl rfl rfl ?_
  first | refine G.nilCheckP rfl trivial rfl rfl rfl ?_ | refine G.nilCheckF rfl trivial rfl rfl rfl ?_
  refine G.fieldAddr rfl trivial rfl rfl Tryz.underlying116 rfl I114 rfl rfl ?_
  refine G.loadAt (by first | exact .here | exact .next .here | exact .next (.next .here) | exact .next (.next (.next .here)) | exact .next (.next (.next (.next .here))) | exact .next (.next (.next (.next (.next .here)))) | exact .next (.next (.next (.next (.next (.next .here))))) | exact .next (.next (.next (.next (.next (.next (.next .here)))))) | exact .in1 | exact .next .in1 | exact .next (.next .in1) | exact .next (.next (.next .in1)) | exact .next (.next (.next (.next .in1))) | exact .in2 | exact .next .in2 | exact .next (.next .in2) | exact .next (.next (.next .in2)) | exact .next (.next (.next (.next .in2))) | exact .app .here | exact .app (.next .here) | exact .app (.next (.next .here)) | exact .app (.next (.next (.next .here))) | exact .app (.next (.next (.next (.next .here)))) | exact .app (.next (.next (.next (.next (.next .here))))) | exact .app (.next (.next (.next (.next (.next (.next .here)))))) | exact .app (.next (.next (.next (.next (.next (.next (.next .here))))))) | exact .app .in1 | exact .app .in2 | exact .app (.next .in1) | exact .next (.app .in1) | exact .next (.next (.app .in1)) | exact .next (.app .here) | exact .next (.next (.app .here)) | exact .next (.next (.next (.app .here))) | exact .next (.next (.next (.next (.app .here))))) rfl trivial rfl rfl Tryz.underlying114 rfl rfl (by rfl) ?_
  refine G.lenSlice rfl trivial rfl rfl Tryz.underlying114 rfl ?_
  refine G.call E34 rfl rfl trivial rfl rfl (new_spec W0 _ d.l.length) rfl ?_
  rintro e L2 ⟨bd2, bl2, rfl, rfl⟩
  rw [hN]
  refine G.assignP rfl trivial rfl rfl rfl ?_
  refine G.nil ?_
  refine C.seq ?_
  refine C.region ?_
  refine G.assignI rfl trivial rfl rfl rfl ?_
  refine G.nil ?_
  refine C.seq ?_
  refine C.seq ?_
  refine C.region ?_
  refine G.moveP rfl trivial rfl rfl rfl ?_
  first | refine G.nilCheckP rfl trivial rfl rfl rfl ?_ | refine G.nilCheckF rfl trivial rfl rfl rfl ?_
  refine G.fieldAddr rfl trivial rfl rfl Tryz.underlying116 rfl I114 rfl rfl ?_
  refine G.loadAt (by first | exact .here | exact .next .here | exact .next (.next .here) | exact .next (.next (.next .here)) | exact .next (.next (.next (.next .here))) | exact .next (.next (.next (.next (.next .here)))) | exact .next (.next (.next (.next (.next (.next .here))))) | exact .next (.next (.next (.next (.next (.next (.next .here)))))) | exact .in1 | exact .next .in1 | exact .next (.next .in1) | exact .next (.next (.next .in1)) | exact .next (.next (.next (.next .in1))) | exact .in2 | exact .next .in2 | exact .next (.next .in2) | exact .next (.next (.next .in2)) | exact .next (.next (.next (.next .in2))) | exact .app .here | exact .app (.next .here) | exact .app (.next (.next .here)) | exact .app (.next (.next (.next .here))) | exact .app (.next (.next (.next (.next .here)))) | exact .app (.next (.next (.next (.next (.next .here))))) | exact .app (.next (.next (.next (.next (.next (.next .here)))))) | exact .app (.next (.next (.next (.next (.next (.next (.next .here))))))) | exact .app .in1 | exact .app .in2 | exact .app (.next .in1) | exact .next (.app .in1) | exact .next (.next (.app .in1)) | exact .next (.app .here) | exact .next (.next (.app .here)) | exact .next (.next (.next (.app .here))) | exact .next (.next (.next (.next (.app .here))))) rfl trivial rfl rfl Tryz.underlying114 rfl rfl (by rfl) ?_
  refine G.lenSlice rfl trivial rfl rfl Tryz.underlying114 rfl ?_
  refine G.moveI rfl trivial rfl rfl rfl ?_
  refine G.nil ?_
  refine C.block ?_
  refine C.loop (fun m F D' L' => ∃ i : Nat, i ≤ d.l.length ∧ m = d.l.length - i ∧ F 23 = .int .i64 i ∧ F 22 = .int .i64 (d.l.length : Nat) ∧ F 21 = .slice (some ⟨bl, 0, none⟩) d.l.length d.l.length ∧ F 6 = .int .i64 (loosN (d.l.take i) : Nat) ∧ F 5 = ptr bd2 ∧ F 1 = .slice a ks.length c ∧ D' = [] ∧ [(bd2, .row [.slice (some ⟨bl2, 0, none⟩) d.l.length d.l.length, .int .i64 0, .bool false, .int .i64 0, .bool false] 116 5), (bl2, .row (secsV (cr ks d.l i)) 119 (d.l.length * 129))] :: (S ++ (devSeg kd kl bd bl d :: L0)) = L') ⟨_, ⟨0, by omega, rfl, rfl, rfl, rfl, rfl, rfl, rfl, rfl, by simp [cr, newDv, crashFrom]⟩⟩ ?_
  rintro m F D' L' ⟨i, hi, rfl, h23, h22, h21, h6, h5, h1', rfl, rfl⟩
  refine C.fix (d := 23) h23 ?_
  refine C.fix (d := 22) h22 ?_
  refine C.fix (d := 21) h21 ?_
  refine C.fix (d := 6) h6 ?_
  refine C.fix (d := 5) h5 ?_
  refine C.fix (d := 1) h1' ?_
  refine C.seq ?_
  refine C.region ?_
  refine G.bin rfl trivial rfl rfl rfl rfl rfl ?_
  refine G.nil ?_
  refine C.seq ?_
  refine C.cond _ rfl ?_ ?_
  · intro hc1
    have hlt : i < d.l.length := by omega
    have e0 : 0 + (i : Int).toNat * 129 = 129 * i := by omega
    have hs := hd.1 _ (List.getElem_mem hlt)
    have hcs := Sec.cs_length hs
    have hz := Sec.cs_length zeroSec_ok
    have hsn := loosN_snoc hlt
    have hle := loosN_le (d.l.take i)
    rw [List.length_take, Nat.min_eq_left (by omega)] at hle
    have okc := cr_ok (ks := ks) hd.1 i
    have hcl := cr_length (ks := ks) hi
    have hsl := secsV_length okc
    rw [hcl] at hsl
    have hkl := kept_length (ks := ks) hs (loosN (d.l.take i))
    have hz64 : (bytesV zero64).length = 64 := rfl
    have hl64 : (bytesV d.l[i].lasts).length = 64 := by rw [bytesV_length]; exact hs.2
    have hn64 : (bytesV d.l[i].now).length = 64 := by rw [bytesV_length]; exact hs.1
    have hk64 : (bytesV (kept ks d.l[i] (loosN (d.l.take i)))).length = 64 := by rw [bytesV_length]; exact hkl
    refine C.skip ?_
    refine C.seq ?_
    refine C.block ?_
    refine C.seq ?_
    refine C.region ?_
    refine G.moveI rfl trivial rfl rfl rfl ?_
    refine G.indexAddr rfl trivial rfl rfl Tryz.underlying114 I119 rfl rfl (by omega) ?_
    refine G.fix (d := 26) (v := .pointer (some ⟨bl, 129 * i, none⟩)) (by show Value.pointer (some ⟨bl, 0 + (i : Int).toNat * 129, none⟩) = _; rw [e0]) ?_
    refine G.loadAgg (Sec.cs d.l[i]) rfl trivial rfl rfl Tryz.underlying119 rfl ISec hcs rfl (fun w hm => agg_of_row hm (.next (.app .in1)) (now_row hd hlt)) ?_
    refine G.allocC (cs := Sec.cs zeroSec) rfl trivial rfl rfl ISec rfl ?_
    intro b8
    refine G.assignI rfl trivial rfl rfl rfl ?_
    refine G.storeS (vs := Sec.cs d.l[i]) .here rfl trivial rfl ISec rfl rfl hcs (cs_okv _) (by omega) (Sec.cs d.l[i]) (whole (by omega)) ?_
    refine G.nil ?_
    refine C.seq ?_
    refine C.region ?_
    refine G.fieldAddr rfl trivial rfl rfl Tryz.underlying119 rfl I117 rfl rfl ?_
    refine G.fix (d := 28) (v := .pointer (some ⟨b8, 64, none⟩)) rfl ?_
    refine G.loadAgg (bytesV d.l[i].lasts) rfl trivial rfl rfl Tryz.underlying117 rfl IArr hl64 rfl (fun w hm => agg_of_row hm .here (fun j v hj => by rw [cs_lasts hs (by rw [← hl64]; exact (List.getElem?_eq_some_iff.1 hj).1)]; exact hj)) ?_
    refine G.allocC (cs := bytesV zero64) rfl trivial rfl rfl IArr rfl ?_
    intro b9
    refine G.storeS (vs := bytesV d.l[i].lasts) .here rfl trivial rfl IArr rfl rfl hl64 bytesV_ok (by omega) (bytesV d.l[i].lasts) (whole (by omega)) ?_
    refine G.nil ?_
    refine C.seq ?_
    refine C.seq ?_
    refine C.region ?_
    refine G.fieldAddr rfl trivial rfl rfl Tryz.underlying119 rfl I4 rfl rfl ?_
    refine G.fix (d := 30) (v := .pointer (some ⟨b8, 128, none⟩)) rfl ?_
    refine G.loadAt (v := .bool d.l[i].loose) (.next .here) rfl trivial rfl rfl Tryz.underlying4 rfl rfl (cs_loose hs) ?_
    refine G.nil ?_
    refine C.condB _ rfl ?_ ?_
    · intro hc2
      refine C.seq ?_
      refine C.seq ?_
      refine C.region ?_
      refine G.moveI rfl trivial rfl rfl rfl ?_
      refine G.moveS rfl trivial rfl rfl rfl ?_
      refine G.lenSlice rfl trivial rfl rfl Tryz.underlying32 rfl ?_
      refine G.bin rfl trivial rfl rfl rfl rfl rfl ?_
      refine G.moveB rfl trivial rfl rfl rfl ?_
      refine G.fork (t := 36) _ rfl ?_ ?_
      · intro hg36
        refine G.moveS rfl ⟨_, rfl, rfl, rfl⟩ rfl rfl rfl ?_
        refine G.moveI rfl ⟨_, rfl, rfl, rfl⟩ rfl rfl rfl ?_
        obtain ⟨ba, oa, rfl, _⟩ := (hr []).some_ (by simp; omega)
        have hjk : loosN (d.l.take i) < ks.length := by omega
        refine G.indexAddr rfl ⟨_, rfl, rfl, rfl⟩ rfl rfl Tryz.underlying32 I4 rfl rfl (by omega) ?_
        refine G.load (v := .bool ks[loosN (d.l.take i)]) rfl ⟨_, rfl, rfl, rfl⟩ rfl rfl Tryz.underlying4 rfl rfl (fun w hm => by rw [show oa + ((loosN (d.l.take i) : Nat) : Int).toNat * 1 = oa + loosN (d.l.take i) by omega, Rd.cell_at (hr [_, _, _]) (by simpa using hjk) w hm]; simp [hjk]) ?_
        first | refine G.pickT rfl trivial rfl rfl rfl rfl ?_ | refine G.pickF rfl trivial rfl rfl rfl rfl ?_
        refine G.nil ?_
        refine C.condB _ rfl ?_ ?_
        · intro hc3
          refine C.region ?_
          refine G.fieldAddr rfl trivial rfl rfl Tryz.underlying119 rfl I117 rfl rfl ?_
          refine G.fix (d := 42) (v := .pointer (some ⟨b8, 0, none⟩)) rfl ?_
          refine G.loadAgg (bytesV d.l[i].now) rfl trivial rfl rfl Tryz.underlying117 rfl IArr hn64 rfl (fun w hm => agg_of_row hm (.next .here) (fun j v hj => by rw [Nat.zero_add, cs_now hs (by rw [← hn64]; exact (List.getElem?_eq_some_iff.1 hj).1)]; exact hj)) ?_
          refine G.storeS (vs := bytesV d.l[i].now) .here rfl trivial rfl IArr rfl rfl hn64 bytesV_ok (by omega) (bytesV d.l[i].now) (whole (by omega)) ?_
          refine G.nil ?_
          refine C.region ?_
          refine G.moveI rfl trivial rfl rfl rfl ?_
          refine G.add rfl trivial rfl rfl rfl rfl (by omega) ?_
          refine G.assignI rfl trivial rfl rfl rfl ?_
          rw [show d.l[i].now = kept ks d.l[i] (loosN (d.l.take i)) by simp [kept, hc2, hjk, hc3]]
          refine G.nil ?_
          refine C.drawn mixed (_) [9] (fun _ h => h) ?_
          refine GA.pure (i := 0) (fun _ _ _ _ _ h => h) rfl (by kernel_rfl) trivial rfl rfl (Y.moveP rfl rfl) (#[true, false, false, false, false, false, false, false, false, false]) (by kernel_rfl) ?_
          first | refine GA.pure (i := 1) (fun _ _ _ _ _ h => h) rfl (by kernel_rfl) trivial rfl rfl (Y.nilCheckP rfl rfl) (#[true, true, false, false, false, false, false, false, false, false]) (by kernel_rfl) ?_ | refine GA.pure (i := 1) (fun _ _ _ _ _ h => h) rfl (by kernel_rfl) trivial rfl rfl (Y.nilCheckF rfl rfl) (#[true, true, false, false, false, false, false, false, false, false]) (by kernel_rfl) ?_
          refine GA.pure (i := 2) (fun _ _ _ _ _ h => h) rfl (by kernel_rfl) trivial rfl rfl (Y.fieldAddr rfl Tryz.underlying116 rfl I114 rfl rfl) (#[true, true, true, false, false, false, false, false, false, false]) (by kernel_rfl) ?_
          refine GA.read (i := 3) (fun _ _ _ _ _ h => h) rfl (by kernel_rfl) (by kernel_rfl) trivial rfl rfl (Y.loadAt (by first | exact .here | exact .next .here | exact .next (.next .here) | exact .next (.next (.next .here)) | exact .next (.next (.next (.next .here))) | exact .next (.next (.next (.next (.next .here)))) | exact .next (.next (.next (.next (.next (.next .here))))) | exact .next (.next (.next (.next (.next (.next (.next .here)))))) | exact .in1 | exact .next .in1 | exact .next (.next .in1) | exact .next (.next (.next .in1)) | exact .next (.next (.next (.next .in1))) | exact .in2 | exact .next .in2 | exact .next (.next .in2) | exact .next (.next (.next .in2)) | exact .next (.next (.next (.next .in2))) | exact .app .here | exact .app (.next .here) | exact .app (.next (.next .here)) | exact .app (.next (.next (.next .here))) | exact .app (.next (.next (.next (.next .here)))) | exact .app (.next (.next (.next (.next (.next .here))))) | exact .app (.next (.next (.next (.next (.next (.next .here)))))) | exact .app (.next (.next (.next (.next (.next (.next (.next .here))))))) | exact .app .in1 | exact .app .in2 | exact .app (.next .in1) | exact .next (.app .in1) | exact .next (.next (.app .in1)) | exact .next (.app .here) | exact .next (.next (.app .here)) | exact .next (.next (.next (.app .here))) | exact .next (.next (.next (.next (.app .here))))) rfl Tryz.underlying114 rfl rfl (by rfl)) (#[true, true, true, true, false, false, false, false, false, false]) (by kernel_rfl) ?_
          refine GA.pure (i := 4) (fun _ _ _ _ _ h => h) rfl (by kernel_rfl) trivial rfl rfl (Y.moveI rfl rfl) (#[true, true, true, true, true, false, false, false, false, false]) (by kernel_rfl) ?_
          refine GA.read (i := 5) (fun _ _ _ _ _ h => h) rfl (by kernel_rfl) (by kernel_rfl) trivial rfl rfl (Y.loadAgg (bytesV (kept ks d.l[i] (loosN (d.l.take i)))) rfl Tryz.underlying117 rfl IArr hk64 rfl (fun w hm => agg_of_row hm .here (fun j v hj => by simpa using hj))) (#[true, true, true, true, true, true, false, false, false, false]) (by kernel_rfl) ?_
          refine GA.read (i := 6) (fun _ _ _ _ _ h => h) rfl (by kernel_rfl) (by kernel_rfl) trivial rfl rfl (Y.loadAgg (bytesV (kept ks d.l[i] (loosN (d.l.take i)))) rfl Tryz.underlying117 rfl IArr hk64 rfl (fun w hm => agg_of_row hm .here (fun j v hj => by simpa using hj))) (#[true, true, true, true, true, true, true, false, false, false]) (by kernel_rfl) ?_
          refine GA.pure (i := 7) (fun _ _ _ _ _ h => h) rfl (by kernel_rfl) trivial rfl rfl (Y.buildL (cs := Sec.cs (both (kept ks d.l[i] (loosN (d.l.take i))))) rfl Tryz.underlying119 ISec B119 rfl (fill_both hkl)) (#[true, true, true, true, true, true, true, true, false, false]) (by kernel_rfl) ?_
          refine GA.pure (i := 8) (fun _ _ _ _ _ h => h) rfl (by kernel_rfl) trivial rfl rfl (Y.indexAddr rfl Tryz.underlying114 I119 rfl rfl (by omega)) (#[true, true, true, true, true, true, true, true, true, false]) (by kernel_rfl) ?_
          refine GA.fix (d := 54) (v := .pointer (some ⟨bl2, 129 * i + 0, none⟩)) (by show Value.pointer (some ⟨bl2, 0 + (i : Int).toNat * 129, none⟩) = _; rw [e0]; rfl) ?_
          refine GA.one (i := 9) rfl (by kernel_rfl) (#[true, true, true, true, true, true, true, true, true, true]) (by kernel_rfl) ?_
          refine G.storeS (vs := Sec.cs (both (kept ks d.l[i] (loosN (d.l.take i))))) (.next (.next .in1)) rfl trivial rfl ISec rfl rfl (Sec.cs_length ⟨hkl, hkl⟩) (cs_okv _) (by rw [Sec.cs_length ⟨hkl, hkl⟩]; omega) (secsV (cr ks d.l (i + 1))) (by rw [← cr_set hlt]; refine chunk_put (secs_chunk okc) (by rw [Sec.cs_length ⟨hkl, hkl⟩]; decide) (by rw [hcl]; exact hlt) ?_; rw [cr_at hlt]; exact whole (by rw [Sec.cs_length ⟨hkl, hkl⟩, hz])) ?_
          refine G.nil ?_
          refine ⟨fun _ h => absurd h (by simp [hit]), ?_⟩
          refine GA.done (by kernel_rfl) ?_
          refine C.region ?_
          refine G.add rfl trivial rfl rfl rfl rfl (by omega) ?_
          refine G.moveI rfl trivial rfl rfl rfl ?_
          refine G.less (fun _ h => h.tail.tail) ?_
          refine G.nil ?_
          exact ⟨d.l.length - (i + 1), by omega, i + 1, by omega, rfl, rfl, rfl, rfl, by rw [hsn, hc2]; rfl, rfl, rfl, rfl, rfl⟩
        · intro hc3
          refine C.skip ?_
          refine C.region ?_
          refine G.moveI rfl trivial rfl rfl rfl ?_
          refine G.add rfl trivial rfl rfl rfl rfl (by omega) ?_
          refine G.assignI rfl trivial rfl rfl rfl ?_
          rw [show d.l[i].lasts = kept ks d.l[i] (loosN (d.l.take i)) by simp [kept, hc2, hjk, hc3]]
          refine G.nil ?_
          refine C.drawn mixed (_) [9] (fun _ h => h) ?_
          refine GA.pure (i := 0) (fun _ _ _ _ _ h => h) rfl (by kernel_rfl) trivial rfl rfl (Y.moveP rfl rfl) (#[true, false, false, false, false, false, false, false, false, false]) (by kernel_rfl) ?_
          first | refine GA.pure (i := 1) (fun _ _ _ _ _ h => h) rfl (by kernel_rfl) trivial rfl rfl (Y.nilCheckP rfl rfl) (#[true, true, false, false, false, false, false, false, false, false]) (by kernel_rfl) ?_ | refine GA.pure (i := 1) (fun _ _ _ _ _ h => h) rfl (by kernel_rfl) trivial rfl rfl (Y.nilCheckF rfl rfl) (#[true, true, false, false, false, false, false, false, false, false]) (by kernel_rfl) ?_
          refine GA.pure (i := 2) (fun _ _ _ _ _ h => h) rfl (by kernel_rfl) trivial rfl rfl (Y.fieldAddr rfl Tryz.underlying116 rfl I114 rfl rfl) (#[true, true, true, false, false, false, false, false, false, false]) (by kernel_rfl) ?_
          refine GA.read (i := 3) (fun _ _ _ _ _ h => h) rfl (by kernel_rfl) (by kernel_rfl) trivial rfl rfl (Y.loadAt (by first | exact .here | exact .next .here | exact .next (.next .here) | exact .next (.next (.next .here)) | exact .next (.next (.next (.next .here))) | exact .next (.next (.next (.next (.next .here)))) | exact .next (.next (.next (.next (.next (.next .here))))) | exact .next (.next (.next (.next (.next (.next (.next .here)))))) | exact .in1 | exact .next .in1 | exact .next (.next .in1) | exact .next (.next (.next .in1)) | exact .next (.next (.next (.next .in1))) | exact .in2 | exact .next .in2 | exact .next (.next .in2) | exact .next (.next (.next .in2)) | exact .next (.next (.next (.next .in2))) | exact .app .here | exact .app (.next .here) | exact .app (.next (.next .here)) | exact .app (.next (.next (.next .here))) | exact .app (.next (.next (.next (.next .here)))) | exact .app (.next (.next (.next (.next (.next .here))))) | exact .app (.next (.next (.next (.next (.next (.next .here)))))) | exact .app (.next (.next (.next (.next (.next (.next (.next .here))))))) | exact .app .in1 | exact .app .in2 | exact .app (.next .in1) | exact .next (.app .in1) | exact .next (.next (.app .in1)) | exact .next (.app .here) | exact .next (.next (.app .here)) | exact .next (.next (.next (.app .here))) | exact .next (.next (.next (.next (.app .here))))) rfl Tryz.underlying114 rfl rfl (by rfl)) (#[true, true, true, true, false, false, false, false, false, false]) (by kernel_rfl) ?_
          refine GA.pure (i := 4) (fun _ _ _ _ _ h => h) rfl (by kernel_rfl) trivial rfl rfl (Y.moveI rfl rfl) (#[true, true, true, true, true, false, false, false, false, false]) (by kernel_rfl) ?_
          refine GA.read (i := 5) (fun _ _ _ _ _ h => h) rfl (by kernel_rfl) (by kernel_rfl) trivial rfl rfl (Y.loadAgg (bytesV (kept ks d.l[i] (loosN (d.l.take i)))) rfl Tryz.underlying117 rfl IArr hk64 rfl (fun w hm => agg_of_row hm .here (fun j v hj => by simpa using hj))) (#[true, true, true, true, true, true, false, false, false, false]) (by kernel_rfl) ?_
          refine GA.read (i := 6) (fun _ _ _ _ _ h => h) rfl (by kernel_rfl) (by kernel_rfl) trivial rfl rfl (Y.loadAgg (bytesV (kept ks d.l[i] (loosN (d.l.take i)))) rfl Tryz.underlying117 rfl IArr hk64 rfl (fun w hm => agg_of_row hm .here (fun j v hj => by simpa using hj))) (#[true, true, true, true, true, true, true, false, false, false]) (by kernel_rfl) ?_
          refine GA.pure (i := 7) (fun _ _ _ _ _ h => h) rfl (by kernel_rfl) trivial rfl rfl (Y.buildL (cs := Sec.cs (both (kept ks d.l[i] (loosN (d.l.take i))))) rfl Tryz.underlying119 ISec B119 rfl (fill_both hkl)) (#[true, true, true, true, true, true, true, true, false, false]) (by kernel_rfl) ?_
          refine GA.pure (i := 8) (fun _ _ _ _ _ h => h) rfl (by kernel_rfl) trivial rfl rfl (Y.indexAddr rfl Tryz.underlying114 I119 rfl rfl (by omega)) (#[true, true, true, true, true, true, true, true, true, false]) (by kernel_rfl) ?_
          refine GA.fix (d := 54) (v := .pointer (some ⟨bl2, 129 * i + 0, none⟩)) (by show Value.pointer (some ⟨bl2, 0 + (i : Int).toNat * 129, none⟩) = _; rw [e0]; rfl) ?_
          refine GA.one (i := 9) rfl (by kernel_rfl) (#[true, true, true, true, true, true, true, true, true, true]) (by kernel_rfl) ?_
          refine G.storeS (vs := Sec.cs (both (kept ks d.l[i] (loosN (d.l.take i))))) (.next (.next .in1)) rfl trivial rfl ISec rfl rfl (Sec.cs_length ⟨hkl, hkl⟩) (cs_okv _) (by rw [Sec.cs_length ⟨hkl, hkl⟩]; omega) (secsV (cr ks d.l (i + 1))) (by rw [← cr_set hlt]; refine chunk_put (secs_chunk okc) (by rw [Sec.cs_length ⟨hkl, hkl⟩]; decide) (by rw [hcl]; exact hlt) ?_; rw [cr_at hlt]; exact whole (by rw [Sec.cs_length ⟨hkl, hkl⟩, hz])) ?_
          refine G.nil ?_
          refine ⟨fun _ h => absurd h (by simp [hit]), ?_⟩
          refine GA.done (by kernel_rfl) ?_
          refine C.region ?_
          refine G.add rfl trivial rfl rfl rfl rfl (by omega) ?_
          refine G.moveI rfl trivial rfl rfl rfl ?_
          refine G.less (fun _ h => h.tail.tail) ?_
          refine G.nil ?_
          exact ⟨d.l.length - (i + 1), by omega, i + 1, by omega, rfl, rfl, rfl, rfl, by rw [hsn, hc2]; rfl, rfl, rfl, rfl, rfl⟩
      · intro hg36
        refine G.skip rfl rfl rfl rfl rfl rfl ?_
        refine G.skip rfl rfl rfl rfl rfl rfl ?_
        refine G.skip rfl rfl rfl rfl rfl rfl ?_
        refine G.skip rfl rfl rfl rfl rfl rfl ?_
        first | refine G.pickT rfl trivial rfl rfl rfl rfl ?_ | refine G.pickF rfl trivial rfl rfl rfl rfl ?_
        refine G.nil ?_
        refine C.condF rfl ?_
        refine C.skip ?_
        refine C.region ?_
        refine G.moveI rfl trivial rfl rfl rfl ?_
        refine G.add rfl trivial rfl rfl rfl rfl (by omega) ?_
        refine G.assignI rfl trivial rfl rfl rfl ?_
        rw [show d.l[i].lasts = kept ks d.l[i] (loosN (d.l.take i)) by simp [kept, hc2, List.getElem?_eq_none (show ks.length ≤ loosN (d.l.take i) by omega)]]
        refine G.nil ?_
        refine C.drawn mixed (_) [9] (fun _ h => h) ?_
        refine GA.pure (i := 0) (fun _ _ _ _ _ h => h) rfl (by kernel_rfl) trivial rfl rfl (Y.moveP rfl rfl) (#[true, false, false, false, false, false, false, false, false, false]) (by kernel_rfl) ?_
        first | refine GA.pure (i := 1) (fun _ _ _ _ _ h => h) rfl (by kernel_rfl) trivial rfl rfl (Y.nilCheckP rfl rfl) (#[true, true, false, false, false, false, false, false, false, false]) (by kernel_rfl) ?_ | refine GA.pure (i := 1) (fun _ _ _ _ _ h => h) rfl (by kernel_rfl) trivial rfl rfl (Y.nilCheckF rfl rfl) (#[true, true, false, false, false, false, false, false, false, false]) (by kernel_rfl) ?_
        refine GA.pure (i := 2) (fun _ _ _ _ _ h => h) rfl (by kernel_rfl) trivial rfl rfl (Y.fieldAddr rfl Tryz.underlying116 rfl I114 rfl rfl) (#[true, true, true, false, false, false, false, false, false, false]) (by kernel_rfl) ?_
        refine GA.read (i := 3) (fun _ _ _ _ _ h => h) rfl (by kernel_rfl) (by kernel_rfl) trivial rfl rfl (Y.loadAt (by first | exact .here | exact .next .here | exact .next (.next .here) | exact .next (.next (.next .here)) | exact .next (.next (.next (.next .here))) | exact .next (.next (.next (.next (.next .here)))) | exact .next (.next (.next (.next (.next (.next .here))))) | exact .next (.next (.next (.next (.next (.next (.next .here)))))) | exact .in1 | exact .next .in1 | exact .next (.next .in1) | exact .next (.next (.next .in1)) | exact .next (.next (.next (.next .in1))) | exact .in2 | exact .next .in2 | exact .next (.next .in2) | exact .next (.next (.next .in2)) | exact .next (.next (.next (.next .in2))) | exact .app .here | exact .app (.next .here) | exact .app (.next (.next .here)) | exact .app (.next (.next (.next .here))) | exact .app (.next (.next (.next (.next .here)))) | exact .app (.next (.next (.next (.next (.next .here))))) | exact .app (.next (.next (.next (.next (.next (.next .here)))))) | exact .app (.next (.next (.next (.next (.next (.next (.next .here))))))) | exact .app .in1 | exact .app .in2 | exact .app (.next .in1) | exact .next (.app .in1) | exact .next (.next (.app .in1)) | exact .next (.app .here) | exact .next (.next (.app .here)) | exact .next (.next (.next (.app .here))) | exact .next (.next (.next (.next (.app .here))))) rfl Tryz.underlying114 rfl rfl (by rfl)) (#[true, true, true, true, false, false, false, false, false, false]) (by kernel_rfl) ?_
        refine GA.pure (i := 4) (fun _ _ _ _ _ h => h) rfl (by kernel_rfl) trivial rfl rfl (Y.moveI rfl rfl) (#[true, true, true, true, true, false, false, false, false, false]) (by kernel_rfl) ?_
        refine GA.read (i := 5) (fun _ _ _ _ _ h => h) rfl (by kernel_rfl) (by kernel_rfl) trivial rfl rfl (Y.loadAgg (bytesV (kept ks d.l[i] (loosN (d.l.take i)))) rfl Tryz.underlying117 rfl IArr hk64 rfl (fun w hm => agg_of_row hm .here (fun j v hj => by simpa using hj))) (#[true, true, true, true, true, true, false, false, false, false]) (by kernel_rfl) ?_
        refine GA.read (i := 6) (fun _ _ _ _ _ h => h) rfl (by kernel_rfl) (by kernel_rfl) trivial rfl rfl (Y.loadAgg (bytesV (kept ks d.l[i] (loosN (d.l.take i)))) rfl Tryz.underlying117 rfl IArr hk64 rfl (fun w hm => agg_of_row hm .here (fun j v hj => by simpa using hj))) (#[true, true, true, true, true, true, true, false, false, false]) (by kernel_rfl) ?_
        refine GA.pure (i := 7) (fun _ _ _ _ _ h => h) rfl (by kernel_rfl) trivial rfl rfl (Y.buildL (cs := Sec.cs (both (kept ks d.l[i] (loosN (d.l.take i))))) rfl Tryz.underlying119 ISec B119 rfl (fill_both hkl)) (#[true, true, true, true, true, true, true, true, false, false]) (by kernel_rfl) ?_
        refine GA.pure (i := 8) (fun _ _ _ _ _ h => h) rfl (by kernel_rfl) trivial rfl rfl (Y.indexAddr rfl Tryz.underlying114 I119 rfl rfl (by omega)) (#[true, true, true, true, true, true, true, true, true, false]) (by kernel_rfl) ?_
        refine GA.fix (d := 54) (v := .pointer (some ⟨bl2, 129 * i + 0, none⟩)) (by show Value.pointer (some ⟨bl2, 0 + (i : Int).toNat * 129, none⟩) = _; rw [e0]; rfl) ?_
        refine GA.one (i := 9) rfl (by kernel_rfl) (#[true, true, true, true, true, true, true, true, true, true]) (by kernel_rfl) ?_
        refine G.storeS (vs := Sec.cs (both (kept ks d.l[i] (loosN (d.l.take i))))) (.next (.next .in1)) rfl trivial rfl ISec rfl rfl (Sec.cs_length ⟨hkl, hkl⟩) (cs_okv _) (by rw [Sec.cs_length ⟨hkl, hkl⟩]; omega) (secsV (cr ks d.l (i + 1))) (by rw [← cr_set hlt]; refine chunk_put (secs_chunk okc) (by rw [Sec.cs_length ⟨hkl, hkl⟩]; decide) (by rw [hcl]; exact hlt) ?_; rw [cr_at hlt]; exact whole (by rw [Sec.cs_length ⟨hkl, hkl⟩, hz])) ?_
        refine G.nil ?_
        refine ⟨fun _ h => absurd h (by simp [hit]), ?_⟩
        refine GA.done (by kernel_rfl) ?_
        refine C.region ?_
        refine G.add rfl trivial rfl rfl rfl rfl (by omega) ?_
        refine G.moveI rfl trivial rfl rfl rfl ?_
        refine G.less (fun _ h => h.tail.tail) ?_
        refine G.nil ?_
        exact ⟨d.l.length - (i + 1), by omega, i + 1, by omega, rfl, rfl, rfl, rfl, by rw [hsn, hc2]; rfl, rfl, rfl, rfl, rfl⟩
    · intro hc2
      rw [show d.l[i].lasts = kept ks d.l[i] (loosN (d.l.take i)) by simp [kept, hc2]]
      refine C.skip ?_
      refine C.drawn mixed (_) [9] (fun _ h => h) ?_
      refine GA.pure (i := 0) (fun _ _ _ _ _ h => h) rfl (by kernel_rfl) trivial rfl rfl (Y.moveP rfl rfl) (#[true, false, false, false, false, false, false, false, false, false]) (by kernel_rfl) ?_
      first | refine GA.pure (i := 1) (fun _ _ _ _ _ h => h) rfl (by kernel_rfl) trivial rfl rfl (Y.nilCheckP rfl rfl) (#[true, true, false, false, false, false, false, false, false, false]) (by kernel_rfl) ?_ | refine GA.pure (i := 1) (fun _ _ _ _ _ h => h) rfl (by kernel_rfl) trivial rfl rfl (Y.nilCheckF rfl rfl) (#[true, true, false, false, false, false, false, false, false, false]) (by kernel_rfl) ?_
      refine GA.pure (i := 2) (fun _ _ _ _ _ h => h) rfl (by kernel_rfl) trivial rfl rfl (Y.fieldAddr rfl Tryz.underlying116 rfl I114 rfl rfl) (#[true, true, true, false, false, false, false, false, false, false]) (by kernel_rfl) ?_
      refine GA.read (i := 3) (fun _ _ _ _ _ h => h) rfl (by kernel_rfl) (by kernel_rfl) trivial rfl rfl (Y.loadAt (by first | exact .here | exact .next .here | exact .next (.next .here) | exact .next (.next (.next .here)) | exact .next (.next (.next (.next .here))) | exact .next (.next (.next (.next (.next .here)))) | exact .next (.next (.next (.next (.next (.next .here))))) | exact .next (.next (.next (.next (.next (.next (.next .here)))))) | exact .in1 | exact .next .in1 | exact .next (.next .in1) | exact .next (.next (.next .in1)) | exact .next (.next (.next (.next .in1))) | exact .in2 | exact .next .in2 | exact .next (.next .in2) | exact .next (.next (.next .in2)) | exact .next (.next (.next (.next .in2))) | exact .app .here | exact .app (.next .here) | exact .app (.next (.next .here)) | exact .app (.next (.next (.next .here))) | exact .app (.next (.next (.next (.next .here)))) | exact .app (.next (.next (.next (.next (.next .here))))) | exact .app (.next (.next (.next (.next (.next (.next .here)))))) | exact .app (.next (.next (.next (.next (.next (.next (.next .here))))))) | exact .app .in1 | exact .app .in2 | exact .app (.next .in1) | exact .next (.app .in1) | exact .next (.next (.app .in1)) | exact .next (.app .here) | exact .next (.next (.app .here)) | exact .next (.next (.next (.app .here))) | exact .next (.next (.next (.next (.app .here))))) rfl Tryz.underlying114 rfl rfl (by rfl)) (#[true, true, true, true, false, false, false, false, false, false]) (by kernel_rfl) ?_
      refine GA.pure (i := 4) (fun _ _ _ _ _ h => h) rfl (by kernel_rfl) trivial rfl rfl (Y.moveI rfl rfl) (#[true, true, true, true, true, false, false, false, false, false]) (by kernel_rfl) ?_
      refine GA.read (i := 5) (fun _ _ _ _ _ h => h) rfl (by kernel_rfl) (by kernel_rfl) trivial rfl rfl (Y.loadAgg (bytesV (kept ks d.l[i] (loosN (d.l.take i)))) rfl Tryz.underlying117 rfl IArr hk64 rfl (fun w hm => agg_of_row hm .here (fun j v hj => by simpa using hj))) (#[true, true, true, true, true, true, false, false, false, false]) (by kernel_rfl) ?_
      refine GA.read (i := 6) (fun _ _ _ _ _ h => h) rfl (by kernel_rfl) (by kernel_rfl) trivial rfl rfl (Y.loadAgg (bytesV (kept ks d.l[i] (loosN (d.l.take i)))) rfl Tryz.underlying117 rfl IArr hk64 rfl (fun w hm => agg_of_row hm .here (fun j v hj => by simpa using hj))) (#[true, true, true, true, true, true, true, false, false, false]) (by kernel_rfl) ?_
      refine GA.pure (i := 7) (fun _ _ _ _ _ h => h) rfl (by kernel_rfl) trivial rfl rfl (Y.buildL (cs := Sec.cs (both (kept ks d.l[i] (loosN (d.l.take i))))) rfl Tryz.underlying119 ISec B119 rfl (fill_both hkl)) (#[true, true, true, true, true, true, true, true, false, false]) (by kernel_rfl) ?_
      refine GA.pure (i := 8) (fun _ _ _ _ _ h => h) rfl (by kernel_rfl) trivial rfl rfl (Y.indexAddr rfl Tryz.underlying114 I119 rfl rfl (by omega)) (#[true, true, true, true, true, true, true, true, true, false]) (by kernel_rfl) ?_
      refine GA.fix (d := 54) (v := .pointer (some ⟨bl2, 129 * i + 0, none⟩)) (by show Value.pointer (some ⟨bl2, 0 + (i : Int).toNat * 129, none⟩) = _; rw [e0]; rfl) ?_
      refine GA.one (i := 9) rfl (by kernel_rfl) (#[true, true, true, true, true, true, true, true, true, true]) (by kernel_rfl) ?_
      refine G.storeS (vs := Sec.cs (both (kept ks d.l[i] (loosN (d.l.take i))))) (.next (.next .in1)) rfl trivial rfl ISec rfl rfl (Sec.cs_length ⟨hkl, hkl⟩) (cs_okv _) (by rw [Sec.cs_length ⟨hkl, hkl⟩]; omega) (secsV (cr ks d.l (i + 1))) (by rw [← cr_set hlt]; refine chunk_put (secs_chunk okc) (by rw [Sec.cs_length ⟨hkl, hkl⟩]; decide) (by rw [hcl]; exact hlt) ?_; rw [cr_at hlt]; exact whole (by rw [Sec.cs_length ⟨hkl, hkl⟩, hz])) ?_
      refine G.nil ?_
      refine ⟨fun _ h => absurd h (by simp [hit]), ?_⟩
      refine GA.done (by kernel_rfl) ?_
      refine C.region ?_
      refine G.add rfl trivial rfl rfl rfl rfl (by omega) ?_
      refine G.moveI rfl trivial rfl rfl rfl ?_
      refine G.less (fun _ h => h.tail.tail) ?_
      refine G.nil ?_
      exact ⟨d.l.length - (i + 1), by omega, i + 1, by omega, rfl, rfl, rfl, rfl, by rw [hsn, hc2]; rfl, rfl, rfl, rfl, rfl⟩
  · intro hc1
    obtain rfl : i = d.l.length := by omega
    refine C.exit ?_
    refine C.seq ?_
    refine C.region ?_
    refine G.moveP rfl trivial rfl rfl rfl ?_
    refine G.assignP rfl trivial rfl rfl rfl ?_
    refine G.nil ?_
    refine C.ret ?_
    -- end c1F
    exact ⟨rfl, _, Res.of (rs := [.tmp 4]) rfl rfl, bd2, bl2, by simp [Dv.crash, cr, newDv, crashFrom_length], rfl⟩
end dev
end Go.Proofs.YtokggoikffcijaaGreatDoor
