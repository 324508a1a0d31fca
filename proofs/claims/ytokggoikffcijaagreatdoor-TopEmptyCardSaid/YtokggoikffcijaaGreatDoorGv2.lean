/-
  The device in blocks of any capacity: a flush.
-/
import Derived.Test.YtokggoikffcijaaGreatDoorGv1
namespace Go.Proofs.YtokggoikffcijaaGreatDoor
open Go Go.SL Go.RowKit
section dev
variable (W0 : World) (S L0 : List Seg) (kd kl bd bl : Nat) (d : Dv)
/-- the sectors as far as the flush has come -/
def fl (l : List Sec) (i : Nat) : List Sec := (l.take i).map Sec.flush ++ l.drop i
theorem fl_length (l : List Sec) (i : Nat) : (fl l i).length = l.length := by simp [fl]; omega
theorem fl_ok {l : List Sec} (h : ∀ s ∈ l, s.ok) (i : Nat) : ∀ s ∈ fl l i, s.ok := by
  intro s hs
  rcases List.mem_append.1 hs with hs | hs
  · obtain ⟨t, ht, rfl⟩ := List.mem_map.1 hs
    have := h t (List.mem_of_mem_take ht)
    exact ⟨this.1, this.1⟩
  · exact h s (List.mem_of_mem_drop hs)
theorem fl_at {l : List Sec} {i : Nat} (hi : i < l.length) : (fl l i)[i]'(by rw [fl_length]; exact hi) = l[i] := by
  simp only [fl]
  rw [List.getElem_append_right (by simp; omega)]
  simp only [List.length_map, List.length_take, List.getElem_drop]
  congr 1
  omega
theorem fl_set {l : List Sec} {i : Nat} (hi : i < l.length) : (fl l i).set i l[i].flush = fl l (i + 1) := by
  simp only [fl]
  rw [List.set_append_right _ _ (by simp; omega)]
  have e : i - ((l.take i).map Sec.flush).length = 0 := by simp; omega
  rw [e, List.drop_eq_getElem_cons hi, List.set_cons_zero, List.take_succ_eq_append_getElem hi]
  simp only [List.map_append, List.map_cons, List.map_nil, List.append_assoc, List.cons_append, List.nil_append]
theorem flush_ok (hd : d.ok) (hdead : d.isDead = false) : FnS Tryz.prog W0 138 #[ptr bd] (S ++ (devSeg kd kl bd bl d :: L0)) (fun e L' => L' = S ++ (devSeg kd kl bd bl d.flush :: L0) ∧ e = .returned (.int .i64 0)) := by
  have hlen := hd.2.1
  refine FnS.of (args := [ptr bd]) Tryz.func138 rfl rfl ?_
  refine C.seq ?_
  refine C.region ?_
  refine G.assignI rfl trivial rfl rfl rfl ?_
  refine G.nil ?_
  refine C.seq ?_
  refine C.seq ?_
  refine C.region ?_
  refine G.moveP rfl trivial rfl rfl rfl ?_
  refine G.call E230 rfl rfl trivial rfl rfl (dead_spec W0 S L0 kd kl bd bl d) rfl ?_
  rintro e L2 ⟨rfl, rfl⟩
  rw [hdead]
  refine G.nil ?_
  refine C.condF rfl ?_
  refine C.skip ?_
  refine C.seq ?_
  refine C.region ?_
  refine G.moveP rfl trivial rfl rfl rfl ?_
  refine G.call E231 rfl rfl trivial rfl rfl (burns_spec W0 S L0 kd kl bd bl d hd) rfl ?_
  rintro e L2 ⟨rfl, rfl⟩
  refine G.nil ?_
  refine C.seq ?_
  refine C.seq ?_
  refine C.region ?_
  refine G.moveP rfl trivial rfl rfl rfl ?_
  first | refine G.nilCheckP rfl trivial rfl rfl rfl ?_ | refine G.nilCheckF rfl trivial rfl rfl rfl ?_
  refine G.fieldAddr rfl trivial rfl rfl Tryz.underlying116 rfl I114 rfl rfl ?_
  refine G.loadAt (by first | exact .here | exact .next .here | exact .next (.next .here) | exact .next (.next (.next .here)) | exact .next (.next (.next (.next .here))) | exact .next (.next (.next (.next (.next .here)))) | exact .next (.next (.next (.next (.next (.next .here))))) | exact .next (.next (.next (.next (.next (.next (.next .here)))))) | exact .in1 | exact .next .in1 | exact .next (.next .in1) | exact .next (.next (.next .in1)) | exact .next (.next (.next (.next .in1))) | exact .in2 | exact .next .in2 | exact .next (.next .in2) | exact .next (.next (.next .in2)) | exact .next (.next (.next (.next .in2))) | exact .app .here | exact .app (.next .here) | exact .app (.next (.next .here)) | exact .app (.next (.next (.next .here))) | exact .app (.next (.next (.next (.next .here)))) | exact .app (.next (.next (.next (.next (.next .here))))) | exact .app (.next (.next (.next (.next (.next (.next .here)))))) | exact .app (.next (.next (.next (.next (.next (.next (.next .here))))))) | exact .app .in1 | exact .app .in2 | exact .app (.next .in1) | exact .next (.app .in1) | exact .next (.next (.app .in1)) | exact .next (.app .here) | exact .next (.next (.app .here)) | exact .next (.next (.next (.app .here))) | exact .next (.next (.next (.next (.app .here))))) rfl trivial rfl rfl Tryz.underlying114 rfl rfl (by rfl) ?_
  refine G.lenSlice rfl trivial rfl rfl Tryz.underlying114 rfl ?_
  refine G.moveI rfl trivial rfl rfl rfl ?_
  refine G.nil ?_
  refine C.block ?_
  refine C.loop (fun m F D' L' => ∃ i : Nat, i ≤ d.l.length ∧ m = d.l.length - i ∧ F 13 = .int .i64 i ∧ F 12 = .int .i64 (d.l.length : Nat) ∧ F 0 = ptr bd ∧ D' = [] ∧ S ++ ([(bd, .row (devRow bl d.burn) 116 kd), (bl, .row (secsV (fl d.l i)) 119 kl)] :: L0) = L') ⟨_, ⟨0, by omega, rfl, rfl, rfl, rfl, rfl, rfl⟩⟩ ?_
  rintro m F D' L' ⟨i, hi, rfl, h13, h12, h0', rfl, rfl⟩
  refine C.fix (d := 13) h13 ?_
  refine C.fix (d := 12) h12 ?_
  refine C.fix (d := 0) h0' ?_
  refine C.seq ?_
  refine C.region ?_
  refine G.bin rfl trivial rfl rfl rfl rfl rfl ?_
  refine G.nil ?_
  refine C.seq ?_
  refine C.cond _ rfl ?_ ?_
  · intro hc1
    have hlt : i < d.l.length := by omega
    have okf := fl_ok hd.1 i
    have hfl := fl_length d.l i
    have hs := hd.1 _ (List.getElem_mem hlt)
    have hsl := secsV_length okf
    rw [hfl] at hsl
    obtain ⟨s1, hs1⟩ : ∃ s1 : Sec, s1 = { d.l[i] with lasts := d.l[i].now } := ⟨_, rfl⟩
    have ok1 : s1.ok := by subst hs1; exact ⟨hs.1, hs.1⟩
    have okl : ∀ s ∈ (fl d.l i).set i s1, s.ok := fun s hm => by
      rcases List.mem_or_eq_of_mem_set hm with h | h
      · exact okf s h
      · exact h ▸ ok1
    have hsl2 := secsV_length okl
    rw [List.length_set, hfl] at hsl2
    have hn64 : (bytesV d.l[i].now).length = 64 := by rw [bytesV_length]; exact hs.1
    have e0 : 0 + (i : Int).toNat * 129 = 129 * i := by omega
    have hrow : ∀ j v, (bytesV d.l[i].now)[j]? = some v → (secsV (fl d.l i))[129 * i + j]? = some v := fun j v hj => by
      have hj64 : j < 64 := by rw [← hn64]; exact (List.getElem?_eq_some_iff.1 hj).1
      rw [now_at okf (by rw [hfl]; exact hlt) hj64, fl_at hlt]
      exact hj
    refine C.skip ?_
    refine C.seq ?_
    refine C.block ?_
    refine C.seq ?_
    refine C.region ?_
    refine G.moveI rfl trivial rfl rfl rfl ?_
    refine G.assignI rfl trivial rfl rfl rfl ?_
    refine G.nil ?_
    refine C.drawn mixed (_) [20, 23] (fun _ h => h) ?_
    refine GA.pure (i := 0) (fun _ _ _ _ _ h => h) rfl (by kernel_rfl) trivial rfl rfl (Y.moveP rfl rfl) (#[true, false, false, false, false, false, false, false, false, false, false, false, false, false, false, false, false, false, false, false, false, false, false, false]) (by kernel_rfl) ?_
    first | refine GA.pure (i := 1) (fun _ _ _ _ _ h => h) rfl (by kernel_rfl) trivial rfl rfl (Y.nilCheckP rfl rfl) (#[true, true, false, false, false, false, false, false, false, false, false, false, false, false, false, false, false, false, false, false, false, false, false, false]) (by kernel_rfl) ?_ | refine GA.pure (i := 1) (fun _ _ _ _ _ h => h) rfl (by kernel_rfl) trivial rfl rfl (Y.nilCheckF rfl rfl) (#[true, true, false, false, false, false, false, false, false, false, false, false, false, false, false, false, false, false, false, false, false, false, false, false]) (by kernel_rfl) ?_
    refine GA.pure (i := 2) (fun _ _ _ _ _ h => h) rfl (by kernel_rfl) trivial rfl rfl (Y.fieldAddr rfl Tryz.underlying116 rfl I114 rfl rfl) (#[true, true, true, false, false, false, false, false, false, false, false, false, false, false, false, false, false, false, false, false, false, false, false, false]) (by kernel_rfl) ?_
    refine GA.read (i := 3) (fun _ _ _ _ _ h => h) rfl (by kernel_rfl) (by kernel_rfl) trivial rfl rfl (Y.loadAt (by first | exact .here | exact .next .here | exact .next (.next .here) | exact .next (.next (.next .here)) | exact .next (.next (.next (.next .here))) | exact .next (.next (.next (.next (.next .here)))) | exact .next (.next (.next (.next (.next (.next .here))))) | exact .next (.next (.next (.next (.next (.next (.next .here)))))) | exact .in1 | exact .next .in1 | exact .next (.next .in1) | exact .next (.next (.next .in1)) | exact .next (.next (.next (.next .in1))) | exact .in2 | exact .next .in2 | exact .next (.next .in2) | exact .next (.next (.next .in2)) | exact .next (.next (.next (.next .in2))) | exact .app .here | exact .app (.next .here) | exact .app (.next (.next .here)) | exact .app (.next (.next (.next .here))) | exact .app (.next (.next (.next (.next .here)))) | exact .app (.next (.next (.next (.next (.next .here))))) | exact .app (.next (.next (.next (.next (.next (.next .here)))))) | exact .app (.next (.next (.next (.next (.next (.next (.next .here))))))) | exact .app .in1 | exact .app .in2 | exact .app (.next .in1) | exact .next (.app .in1) | exact .next (.next (.app .in1)) | exact .next (.app .here) | exact .next (.next (.app .here)) | exact .next (.next (.next (.app .here))) | exact .next (.next (.next (.next (.app .here))))) rfl Tryz.underlying114 rfl rfl (by rfl)) (#[true, true, true, true, false, false, false, false, false, false, false, false, false, false, false, false, false, false, false, false, false, false, false, false]) (by kernel_rfl) ?_
    refine GA.pure (i := 4) (fun _ _ _ _ _ h => h) rfl (by kernel_rfl) trivial rfl rfl (Y.moveI rfl rfl) (#[true, true, true, true, true, false, false, false, false, false, false, false, false, false, false, false, false, false, false, false, false, false, false, false]) (by kernel_rfl) ?_
    refine GA.pure (i := 5) (fun _ _ _ _ _ h => h) rfl (by kernel_rfl) trivial rfl rfl (Y.moveP rfl rfl) (#[true, true, true, true, true, true, false, false, false, false, false, false, false, false, false, false, false, false, false, false, false, false, false, false]) (by kernel_rfl) ?_
    first | refine GA.pure (i := 6) (fun _ _ _ _ _ h => h) rfl (by kernel_rfl) trivial rfl rfl (Y.nilCheckP rfl rfl) (#[true, true, true, true, true, true, true, false, false, false, false, false, false, false, false, false, false, false, false, false, false, false, false, false]) (by kernel_rfl) ?_ | refine GA.pure (i := 6) (fun _ _ _ _ _ h => h) rfl (by kernel_rfl) trivial rfl rfl (Y.nilCheckF rfl rfl) (#[true, true, true, true, true, true, true, false, false, false, false, false, false, false, false, false, false, false, false, false, false, false, false, false]) (by kernel_rfl) ?_
    refine GA.pure (i := 7) (fun _ _ _ _ _ h => h) rfl (by kernel_rfl) trivial rfl rfl (Y.fieldAddr rfl Tryz.underlying116 rfl I114 rfl rfl) (#[true, true, true, true, true, true, true, true, false, false, false, false, false, false, false, false, false, false, false, false, false, false, false, false]) (by kernel_rfl) ?_
    refine GA.read (i := 8) (fun _ _ _ _ _ h => h) rfl (by kernel_rfl) (by kernel_rfl) trivial rfl rfl (Y.loadAt (by first | exact .here | exact .next .here | exact .next (.next .here) | exact .next (.next (.next .here)) | exact .next (.next (.next (.next .here))) | exact .next (.next (.next (.next (.next .here)))) | exact .next (.next (.next (.next (.next (.next .here))))) | exact .next (.next (.next (.next (.next (.next (.next .here)))))) | exact .in1 | exact .next .in1 | exact .next (.next .in1) | exact .next (.next (.next .in1)) | exact .next (.next (.next (.next .in1))) | exact .in2 | exact .next .in2 | exact .next (.next .in2) | exact .next (.next (.next .in2)) | exact .next (.next (.next (.next .in2))) | exact .app .here | exact .app (.next .here) | exact .app (.next (.next .here)) | exact .app (.next (.next (.next .here))) | exact .app (.next (.next (.next (.next .here)))) | exact .app (.next (.next (.next (.next (.next .here))))) | exact .app (.next (.next (.next (.next (.next (.next .here)))))) | exact .app (.next (.next (.next (.next (.next (.next (.next .here))))))) | exact .app .in1 | exact .app .in2 | exact .app (.next .in1) | exact .next (.app .in1) | exact .next (.next (.app .in1)) | exact .next (.app .here) | exact .next (.next (.app .here)) | exact .next (.next (.next (.app .here))) | exact .next (.next (.next (.next (.app .here))))) rfl Tryz.underlying114 rfl rfl (by rfl)) (#[true, true, true, true, true, true, true, true, true, false, false, false, false, false, false, false, false, false, false, false, false, false, false, false]) (by kernel_rfl) ?_
    refine GA.pure (i := 9) (fun _ _ _ _ _ h => h) rfl (by kernel_rfl) trivial rfl rfl (Y.moveI rfl rfl) (#[true, true, true, true, true, true, true, true, true, true, false, false, false, false, false, false, false, false, false, false, false, false, false, false]) (by kernel_rfl) ?_
    refine GA.pure (i := 10) (fun _ _ _ _ _ h => h) rfl (by kernel_rfl) trivial rfl rfl (Y.moveP rfl rfl) (#[true, true, true, true, true, true, true, true, true, true, true, false, false, false, false, false, false, false, false, false, false, false, false, false]) (by kernel_rfl) ?_
    first | refine GA.pure (i := 11) (fun _ _ _ _ _ h => h) rfl (by kernel_rfl) trivial rfl rfl (Y.nilCheckP rfl rfl) (#[true, true, true, true, true, true, true, true, true, true, true, true, false, false, false, false, false, false, false, false, false, false, false, false]) (by kernel_rfl) ?_ | refine GA.pure (i := 11) (fun _ _ _ _ _ h => h) rfl (by kernel_rfl) trivial rfl rfl (Y.nilCheckF rfl rfl) (#[true, true, true, true, true, true, true, true, true, true, true, true, false, false, false, false, false, false, false, false, false, false, false, false]) (by kernel_rfl) ?_
    refine GA.pure (i := 12) (fun _ _ _ _ _ h => h) rfl (by kernel_rfl) trivial rfl rfl (Y.fieldAddr rfl Tryz.underlying116 rfl I114 rfl rfl) (#[true, true, true, true, true, true, true, true, true, true, true, true, true, false, false, false, false, false, false, false, false, false, false, false]) (by kernel_rfl) ?_
    refine GA.read (i := 13) (fun _ _ _ _ _ h => h) rfl (by kernel_rfl) (by kernel_rfl) trivial rfl rfl (Y.loadAt (by first | exact .here | exact .next .here | exact .next (.next .here) | exact .next (.next (.next .here)) | exact .next (.next (.next (.next .here))) | exact .next (.next (.next (.next (.next .here)))) | exact .next (.next (.next (.next (.next (.next .here))))) | exact .next (.next (.next (.next (.next (.next (.next .here)))))) | exact .in1 | exact .next .in1 | exact .next (.next .in1) | exact .next (.next (.next .in1)) | exact .next (.next (.next (.next .in1))) | exact .in2 | exact .next .in2 | exact .next (.next .in2) | exact .next (.next (.next .in2)) | exact .next (.next (.next (.next .in2))) | exact .app .here | exact .app (.next .here) | exact .app (.next (.next .here)) | exact .app (.next (.next (.next .here))) | exact .app (.next (.next (.next (.next .here)))) | exact .app (.next (.next (.next (.next (.next .here))))) | exact .app (.next (.next (.next (.next (.next (.next .here)))))) | exact .app (.next (.next (.next (.next (.next (.next (.next .here))))))) | exact .app .in1 | exact .app .in2 | exact .app (.next .in1) | exact .next (.app .in1) | exact .next (.next (.app .in1)) | exact .next (.app .here) | exact .next (.next (.app .here)) | exact .next (.next (.next (.app .here))) | exact .next (.next (.next (.next (.app .here))))) rfl Tryz.underlying114 rfl rfl (by rfl)) (#[true, true, true, true, true, true, true, true, true, true, true, true, true, true, false, false, false, false, false, false, false, false, false, false]) (by kernel_rfl) ?_
    refine GA.pure (i := 14) (fun _ _ _ _ _ h => h) rfl (by kernel_rfl) trivial rfl rfl (Y.moveI rfl rfl) (#[true, true, true, true, true, true, true, true, true, true, true, true, true, true, true, false, false, false, false, false, false, false, false, false]) (by kernel_rfl) ?_
    refine GA.pure (i := 15) (fun _ _ _ _ _ h => h) rfl (by kernel_rfl) trivial rfl rfl (Y.indexAddr rfl Tryz.underlying114 I119 rfl rfl (by show _ ∧ (i : Int) < (d.l.length : Int); omega)) (#[true, true, true, true, true, true, true, true, true, true, true, true, true, true, true, true, false, false, false, false, false, false, false, false]) (by kernel_rfl) ?_
    refine GA.pure (i := 16) (fun _ _ _ _ _ h => h) rfl (by kernel_rfl) trivial rfl rfl (Y.fieldAddr rfl Tryz.underlying119 rfl I117 rfl rfl) (#[true, true, true, true, true, true, true, true, true, true, true, true, true, true, true, true, true, false, false, false, false, false, false, false]) (by kernel_rfl) ?_
    refine GA.fix (d := 32) (v := .pointer (some ⟨bl, 129 * i, none⟩)) (by show Value.pointer (some ⟨bl, 0 + (i : Int).toNat * 129 + 0, none⟩) = _; rw [e0]; rfl) ?_
    refine GA.read (i := 17) (fun _ _ _ _ _ h => h) rfl (by kernel_rfl) (by kernel_rfl) trivial rfl rfl (Y.loadAgg (bytesV d.l[i].now) rfl Tryz.underlying117 rfl I117 hn64 rfl (fun w hm => agg_of_row hm (.app .in1) hrow)) (#[true, true, true, true, true, true, true, true, true, true, true, true, true, true, true, true, true, true, false, false, false, false, false, false]) (by kernel_rfl) ?_
    refine GA.pure (i := 18) (fun _ _ _ _ _ h => h) rfl (by kernel_rfl) trivial rfl rfl (Y.indexAddr rfl Tryz.underlying114 I119 rfl rfl (by show _ ∧ (i : Int) < (d.l.length : Int); omega)) (#[true, true, true, true, true, true, true, true, true, true, true, true, true, true, true, true, true, true, true, false, false, false, false, false]) (by kernel_rfl) ?_
    refine GA.pure (i := 19) (fun _ _ _ _ _ h => h) rfl (by kernel_rfl) trivial rfl rfl (Y.fieldAddr rfl Tryz.underlying119 rfl I117 rfl rfl) (#[true, true, true, true, true, true, true, true, true, true, true, true, true, true, true, true, true, true, true, true, false, false, false, false]) (by kernel_rfl) ?_
    refine GA.fix (d := 35) (v := .pointer (some ⟨bl, 129 * i + 64, none⟩)) (by show Value.pointer (some ⟨bl, 0 + (i : Int).toNat * 129 + 64, none⟩) = _; rw [e0]) ?_
    refine GA.one (i := 20) rfl (by kernel_rfl) (#[true, true, true, true, true, true, true, true, true, true, true, true, true, true, true, true, true, true, true, true, true, false, false, false]) (by kernel_rfl) ?_
    refine G.storeS (vs := bytesV d.l[i].now) (.app .in1) rfl trivial rfl I117 rfl rfl hn64 bytesV_ok (by omega) (secsV ((fl d.l i).set i s1)) (by rw [hs1]; refine chunk_put (secs_chunk okf) (by rw [hn64]; decide) (by rw [hfl]; exact hlt) ?_; rw [fl_at hlt]; exact cs_setLasts hs hs.1) ?_
    refine G.nil ?_
    refine ⟨fun _ h => absurd h (by simp [hit]), ?_⟩
    refine GA.pure (i := 21) (fun _ _ _ _ _ h => h) rfl (by kernel_rfl) trivial rfl rfl (Y.indexAddr rfl Tryz.underlying114 I119 rfl rfl (by show _ ∧ (i : Int) < (d.l.length : Int); omega)) (#[true, true, true, true, true, true, true, true, true, true, true, true, true, true, true, true, true, true, true, true, true, true, false, false]) (by kernel_rfl) ?_
    refine GA.pure (i := 22) (fun _ _ _ _ _ h => h) rfl (by kernel_rfl) trivial rfl rfl (Y.fieldAddr rfl Tryz.underlying119 rfl I4 rfl rfl) (#[true, true, true, true, true, true, true, true, true, true, true, true, true, true, true, true, true, true, true, true, true, true, true, false]) (by kernel_rfl) ?_
    refine GA.fix (d := 37) (v := .pointer (some ⟨bl, 129 * i + 128, none⟩)) (by show Value.pointer (some ⟨bl, 0 + (i : Int).toNat * 129 + 128, none⟩) = _; rw [e0]) ?_
    refine GA.one (i := 23) rfl (by kernel_rfl) (#[true, true, true, true, true, true, true, true, true, true, true, true, true, true, true, true, true, true, true, true, true, true, true, true]) (by kernel_rfl) ?_
    refine G.store (v := .bool false) (.app .in1) rfl trivial rfl I4 rfl rfl rfl (by omega) (secsV (fl d.l (i + 1))) (by rw [← fl_set hlt, ← List.set_set (a := s1) (b := d.l[i].flush)]; refine chunk_set (secs_chunk okl) (by decide) (by rw [List.length_set, hfl]; exact hlt) ?_; rw [List.getElem_set_self, cs_setLoose ok1, hs1]; rfl) ?_
    refine G.nil ?_
    refine ⟨fun _ h => absurd h (by simp [hit]), ?_⟩
    refine GA.done (by kernel_rfl) ?_
    refine C.region ?_
    refine G.add rfl trivial rfl rfl rfl rfl (by omega) ?_
    refine G.moveI rfl trivial rfl rfl rfl ?_
    refine G.nil ?_
    exact ⟨d.l.length - (i + 1), by omega, i + 1, by omega, rfl, rfl, rfl, rfl, rfl, rfl⟩
  · intro hc1
    obtain rfl : i = d.l.length := by omega
    refine C.exit ?_
    refine C.seq ?_
    refine C.region ?_
    refine G.assignI rfl trivial rfl rfl rfl ?_
    refine G.nil ?_
    refine C.ret ?_
    -- end c1F
    exact ⟨rfl, _, Res.of (rs := [.tmp 2]) rfl rfl, by simp [Dv.flush, fl, Dv.burn], rfl⟩

end dev
end Go.Proofs.YtokggoikffcijaaGreatDoor
