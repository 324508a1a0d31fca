/-
  The library's sort: the pivot and the turning round, walked.
-/
import Derived.Test.YtomiidlbfcfpiaaSr0
import Derived.Sort.LotD4
namespace Go.Proofs.Ytomiidlbfcfpiaa
open Go Go.SL Go.RowKit Go.Sort

theorem order2_lt {d : Array Int} {a b s n : Nat} (h1 : a < n) (h2 : b < n) : (order2 ltInt d a b s).1 < n ∧ (order2 ltInt d a b s).2.1 < n ∧ (order2 ltInt d a b s).2.2 ≤ s + 1 := by
  have h3 := order2_count ltInt d a b s
  rcases order2_mem ltInt d a b s with ⟨e1, e2⟩ | ⟨e1, e2⟩
  · rw [e1, e2]; exact ⟨h1, h2, h3⟩
  · rw [e1, e2]; exact ⟨h2, h1, h3⟩
theorem median_lt {d : Array Int} {a b c s n : Nat} (h1 : a < n) (h2 : b < n) (h3 : c < n) : (median ltInt d a b c s).1 < n ∧ (median ltInt d a b c s).2 ≤ s + 3 := by
  refine ⟨?_, median_count ltInt d a b c s⟩
  rcases median_mem ltInt d a b c s with e | e | e <;> rw [e] <;> assumption
section sort
variable (W0 : World) {bk : Nat} {o0 : SObj} {L0 : List Seg} {u : Nat → SObj → List Seg} (ha : At L0 bk o0 u) (te : TypeId) (kk n cap : Nat) (rest : List Value) (hn : n ≤ 4611686018427387904)
include ha hn
theorem order2_spec (d : Array Int) (hd : d.size = n) (bs a b s : Nat) (h1 : a < n) (h2 : b < n) (hs : s ≤ 1000) :
    FnS Try.prog W0 73 #[.slice (some ⟨bk, 0, none⟩) n cap, .int .i64 a, .int .i64 b, .pointer (some ⟨bs, 0, none⟩)] ([(bs, .row [.int .i64 (s : Int)] 3 1)] :: u bk (.row (ic d rest) te kk))
      (fun e L' => L' = [(bs, .row [.int .i64 ((order2 ltInt d a b s).2.2 : Int)] 3 1)] :: u bk (.row (ic d rest) te kk) ∧ e = .returned (.tuple #[.int .i64 ((order2 ltInt d a b s).1 : Int), .int .i64 ((order2 ltInt d a b s).2.1 : Int)])) := by
  have _ := hn
  refine FnS.of (args := [.slice (some ⟨bk, 0, none⟩) n cap, .int .i64 (a : Int), .int .i64 (b : Int), .pointer (some ⟨bs, 0, none⟩)]) Try.func73 rfl rfl ?_
  refine C.seq ?_
  refine C.region ?_
  refine G.assignI rfl trivial rfl rfl rfl ?_
  refine G.assignI rfl trivial rfl rfl rfl ?_
  refine G.nil ?_
  refine C.seq ?_
  refine C.seq ?_
  refine C.drawn mixed (_) [] (fun _ h => h) ?_
  refine GA.pure (i := 0) (fun _ _ _ _ _ h => h) rfl (by kernel_rfl) trivial rfl rfl (Y.moveS rfl rfl) (#[true, false, false, false, false, false, false, false, false]) (by kernel_rfl) ?_
  refine GA.pure (i := 1) (fun _ _ _ _ _ h => h) rfl (by kernel_rfl) trivial rfl rfl (Y.moveI rfl rfl) (#[true, true, false, false, false, false, false, false, false]) (by kernel_rfl) ?_
  refine GA.pure (i := 2) (fun _ _ _ _ _ h => h) rfl (by kernel_rfl) trivial rfl rfl (Y.idxN rfl Try.underlying27 I2 rfl rfl (by omega)) (#[true, true, true, false, false, false, false, false, false]) (by kernel_rfl) ?_
  refine GA.read (i := 3) (fun _ _ _ _ _ h => h) rfl (by kernel_rfl) (by kernel_rfl) trivial rfl rfl (Y.ldI (by first | exact ha.again _ | exact .next (ha.again _) | exact .next (.next (ha.again _))) rfl Try.underlying2 rfl rfl (by omega)) (#[true, true, true, true, false, false, false, false, false]) (by kernel_rfl) ?_
  refine GA.pure (i := 4) (fun _ _ _ _ _ h => h) rfl (by kernel_rfl) trivial rfl rfl (Y.moveS rfl rfl) (#[true, true, true, true, true, false, false, false, false]) (by kernel_rfl) ?_
  refine GA.pure (i := 5) (fun _ _ _ _ _ h => h) rfl (by kernel_rfl) trivial rfl rfl (Y.moveI rfl rfl) (#[true, true, true, true, true, true, false, false, false]) (by kernel_rfl) ?_
  refine GA.pure (i := 6) (fun _ _ _ _ _ h => h) rfl (by kernel_rfl) trivial rfl rfl (Y.idxN rfl Try.underlying27 I2 rfl rfl (by omega)) (#[true, true, true, true, true, true, true, false, false]) (by kernel_rfl) ?_
  refine GA.read (i := 7) (fun _ _ _ _ _ h => h) rfl (by kernel_rfl) (by kernel_rfl) trivial rfl rfl (Y.ldI (by first | exact ha.again _ | exact .next (ha.again _) | exact .next (.next (ha.again _))) rfl Try.underlying2 rfl rfl (by omega)) (#[true, true, true, true, true, true, true, true, false]) (by kernel_rfl) ?_
  refine GA.one (i := 8) rfl (by kernel_rfl) (#[true, true, true, true, true, true, true, true, true]) (by kernel_rfl) ?_
  refine G.call E60 rfl rfl trivial rfl rfl (less_spec W0 _ _ _) rfl ?_
  rintro e L2 ⟨rfl, rfl⟩
  refine G.nil ?_
  refine ⟨fun _ _ h => h, ?_⟩
  refine GA.done (by kernel_rfl) ?_
  refine C.cond _ rfl ?_ ?_
  · intro hc0
    refine C.seq ?_
    refine C.region ?_
    refine G.moveP rfl trivial rfl rfl rfl ?_
    first | refine G.nilCheckP rfl trivial rfl rfl rfl ?_ | refine G.nilCheckF rfl trivial rfl rfl rfl ?_
    refine G.loadAt (by first | exact .here | exact .next .here | exact .next (.next .here) | exact .next (.next (.next .here)) | exact .next (.next (.next (.next .here))) | exact .next (.next (.next (.next (.next .here)))) | exact .next (.next (.next (.next (.next (.next .here))))) | exact .next (.next (.next (.next (.next (.next (.next .here)))))) | exact .in1 | exact .next .in1 | exact .next (.next .in1) | exact .next (.next (.next .in1)) | exact .next (.next (.next (.next .in1))) | exact .in2 | exact .next .in2 | exact .next (.next .in2) | exact .next (.next (.next .in2)) | exact .next (.next (.next (.next .in2))) | exact .app .here | exact .app (.next .here) | exact .app (.next (.next .here)) | exact .app (.next (.next (.next .here))) | exact .app (.next (.next (.next (.next .here)))) | exact .app (.next (.next (.next (.next (.next .here))))) | exact .app (.next (.next (.next (.next (.next (.next .here)))))) | exact .app (.next (.next (.next (.next (.next (.next (.next .here))))))) | exact .app .in1 | exact .app .in2 | exact .app (.next .in1) | exact .next (.app .in1) | exact .next (.next (.app .in1)) | exact .next (.app .here) | exact .next (.next (.app .here)) | exact .next (.next (.next (.app .here))) | exact .next (.next (.next (.next (.app .here))))) rfl trivial rfl rfl Try.underlying3 rfl rfl (by rfl) ?_
    refine G.addN (j := 1) rfl trivial rfl rfl rfl rfl (by omega) ?_
    first | refine G.nilCheckP rfl trivial rfl rfl rfl ?_ | refine G.nilCheckF rfl trivial rfl rfl rfl ?_
    refine G.store (v := .int _ _) (by first | exact .here | exact .next .here | exact .next (.next .here) | exact .next (.next (.next .here)) | exact .next (.next (.next (.next .here))) | exact .next (.next (.next (.next (.next .here)))) | exact .next (.next (.next (.next (.next (.next .here))))) | exact .next (.next (.next (.next (.next (.next (.next .here)))))) | exact .in1 | exact .next .in1 | exact .next (.next .in1) | exact .next (.next (.next .in1)) | exact .next (.next (.next (.next .in1))) | exact .in2 | exact .next .in2 | exact .next (.next .in2) | exact .next (.next (.next .in2)) | exact .next (.next (.next (.next .in2))) | exact .app .here | exact .app (.next .here) | exact .app (.next (.next .here)) | exact .app (.next (.next (.next .here))) | exact .app (.next (.next (.next (.next .here)))) | exact .app (.next (.next (.next (.next (.next .here))))) | exact .app (.next (.next (.next (.next (.next (.next .here)))))) | exact .app (.next (.next (.next (.next (.next (.next (.next .here))))))) | exact .app .in1 | exact .app .in2 | exact .app (.next .in1) | exact .next (.app .in1) | exact .next (.next (.app .in1)) | exact .next (.app .here) | exact .next (.next (.app .here)) | exact .next (.next (.next (.app .here))) | exact .next (.next (.next (.next (.app .here))))) rfl trivial rfl I3 rfl rfl rfl (by first | decide | (simp; done) | (simp; omega)) _ (by first | (simp only [List.set_cons_succ, List.set_cons_zero]; done) | (simp only [List.set_cons_succ, List.set_cons_zero]; exact rfl) | exact rfl) ?_
    refine G.nil ?_
    refine C.seq ?_
    refine C.region ?_
    refine G.moveI rfl trivial rfl rfl rfl ?_
    refine G.moveI rfl trivial rfl rfl rfl ?_
    refine G.assignI rfl trivial rfl rfl rfl ?_
    refine G.assignI rfl trivial rfl rfl rfl ?_
    refine G.nil ?_
    refine C.ret ?_
    -- end c0T
    have e : order2 ltInt d a b s = (b, a, s + 1) := by unfold order2; rw [if_pos (by simpa [ltInt] using hc0)]
    rw [e]
    exact ⟨rfl, _, Res.of (rs := [.tmp 8, .tmp 9]) rfl rfl, rfl, rfl⟩
  · intro hc0
    refine C.skip ?_
    refine C.seq ?_
    refine C.region ?_
    refine G.moveI rfl trivial rfl rfl rfl ?_
    refine G.moveI rfl trivial rfl rfl rfl ?_
    refine G.assignI rfl trivial rfl rfl rfl ?_
    refine G.assignI rfl trivial rfl rfl rfl ?_
    refine G.nil ?_
    refine C.ret ?_
    -- end c0F
    have e : order2 ltInt d a b s = (a, b, s) := by unfold order2; rw [if_neg (by simpa [ltInt] using hc0)]
    rw [e]
    exact ⟨rfl, _, Res.of (rs := [.tmp 8, .tmp 9]) rfl rfl, rfl, rfl⟩
theorem median_spec (d : Array Int) (hd : d.size = n) (bs a b c s : Nat) (h1 : a < n) (h2 : b < n) (h3 : c < n) (hs : s ≤ 900) :
    FnS Try.prog W0 71 #[.slice (some ⟨bk, 0, none⟩) n cap, .int .i64 a, .int .i64 b, .int .i64 c, .pointer (some ⟨bs, 0, none⟩)] ([(bs, .row [.int .i64 (s : Int)] 3 1)] :: u bk (.row (ic d rest) te kk))
      (fun e L' => L' = [(bs, .row [.int .i64 ((median ltInt d a b c s).2 : Int)] 3 1)] :: u bk (.row (ic d rest) te kk) ∧ e = .returned (.int .i64 ((median ltInt d a b c s).1 : Int))) := by
  have q1 := order2_lt (d := d) (s := s) h1 h2
  generalize hr1 : order2 ltInt d a b s = r1 at q1
  have q2 := order2_lt (d := d) (s := r1.2.2) q1.2.1 h3
  generalize hr2 : order2 ltInt d r1.2.1 c r1.2.2 = r2 at q2
  have q3 := order2_lt (d := d) (s := r2.2.2) q1.1 q2.1
  generalize hr3 : order2 ltInt d r1.1 r2.1 r2.2.2 = r3 at q3
  have hm : median ltInt d a b c s = (r3.2.1, r3.2.2) := by
    unfold median
    simp only [hr1, hr2, hr3]
  rw [hm]
  refine FnS.of (args := [.slice (some ⟨bk, 0, none⟩) n cap, .int .i64 (a : Int), .int .i64 (b : Int), .int .i64 (c : Int), .pointer (some ⟨bs, 0, none⟩)]) Try.func71 rfl rfl ?_
  refine C.seq ?_
  refine C.region ?_
  refine G.assignI rfl trivial rfl rfl rfl ?_
  refine G.nil ?_
  refine C.seq ?_
  refine C.region ?_
  refine G.moveS rfl trivial rfl rfl rfl ?_
  refine G.moveI rfl trivial rfl rfl rfl ?_
  refine G.moveI rfl trivial rfl rfl rfl ?_
  refine G.moveP rfl trivial rfl rfl rfl ?_
  refine G.call E73 rfl rfl trivial rfl rfl (order2_spec W0 ha te kk n cap rest hn d hd bs a b s h1 h2 (by omega)) rfl ?_
  rintro e L2 ⟨rfl, rfl⟩
  rw [hr1]
  refine G.moveU rfl trivial rfl rfl rfl ?_
  refine G.extractL rfl trivial rfl rfl rfl rfl ?_
  refine G.extractL rfl trivial rfl rfl rfl rfl ?_
  refine G.assignI rfl trivial rfl rfl rfl ?_
  refine G.assignI rfl trivial rfl rfl rfl ?_
  refine G.nil ?_
  refine C.seq ?_
  refine C.region ?_
  refine G.moveS rfl trivial rfl rfl rfl ?_
  refine G.moveI rfl trivial rfl rfl rfl ?_
  refine G.moveI rfl trivial rfl rfl rfl ?_
  refine G.moveP rfl trivial rfl rfl rfl ?_
  refine G.call E73 rfl rfl trivial rfl rfl (order2_spec W0 ha te kk n cap rest hn d hd bs r1.2.1 c r1.2.2 q1.2.1 h3 (by omega)) rfl ?_
  rintro e L2 ⟨rfl, rfl⟩
  rw [hr2]
  refine G.moveU rfl trivial rfl rfl rfl ?_
  refine G.extractL rfl trivial rfl rfl rfl rfl ?_
  refine G.extractL rfl trivial rfl rfl rfl rfl ?_
  refine G.assignI rfl trivial rfl rfl rfl ?_
  refine G.assignI rfl trivial rfl rfl rfl ?_
  refine G.nil ?_
  refine C.seq ?_
  refine C.region ?_
  refine G.moveS rfl trivial rfl rfl rfl ?_
  refine G.moveI rfl trivial rfl rfl rfl ?_
  refine G.moveI rfl trivial rfl rfl rfl ?_
  refine G.moveP rfl trivial rfl rfl rfl ?_
  refine G.call E73 rfl rfl trivial rfl rfl (order2_spec W0 ha te kk n cap rest hn d hd bs r1.1 r2.1 r2.2.2 q1.1 q2.1 (by omega)) rfl ?_
  rintro e L2 ⟨rfl, rfl⟩
  rw [hr3]
  refine G.moveU rfl trivial rfl rfl rfl ?_
  refine G.extractL rfl trivial rfl rfl rfl rfl ?_
  refine G.extractL rfl trivial rfl rfl rfl rfl ?_
  refine G.assignI rfl trivial rfl rfl rfl ?_
  refine G.assignI rfl trivial rfl rfl rfl ?_
  refine G.nil ?_
  refine C.seq ?_
  refine C.region ?_
  refine G.moveI rfl trivial rfl rfl rfl ?_
  refine G.assignI rfl trivial rfl rfl rfl ?_
  refine G.nil ?_
  refine C.ret ?_
  -- end 
  exact ⟨rfl, _, Res.of (rs := [.tmp 10]) rfl rfl, rfl, rfl⟩
theorem medianAdj_spec (d : Array Int) (hd : d.size = n) (bs a s : Nat) (h0 : 1 ≤ a) (h1 : a + 1 < n) (hs : s ≤ 900) :
    FnS Try.prog W0 70 #[.slice (some ⟨bk, 0, none⟩) n cap, .int .i64 a, .pointer (some ⟨bs, 0, none⟩)] ([(bs, .row [.int .i64 (s : Int)] 3 1)] :: u bk (.row (ic d rest) te kk))
      (fun e L' => L' = [(bs, .row [.int .i64 ((medianAdjacent ltInt d a s).2 : Int)] 3 1)] :: u bk (.row (ic d rest) te kk) ∧ e = .returned (.int .i64 ((medianAdjacent ltInt d a s).1 : Int))) := by
  refine FnS.of (args := [.slice (some ⟨bk, 0, none⟩) n cap, .int .i64 (a : Int), .pointer (some ⟨bs, 0, none⟩)]) Try.func70 rfl rfl ?_
  refine C.seq ?_
  refine C.region ?_
  refine G.assignI rfl trivial rfl rfl rfl ?_
  refine G.nil ?_
  refine C.seq ?_
  refine C.region ?_
  refine G.moveS rfl trivial rfl rfl rfl ?_
  refine G.moveI rfl trivial rfl rfl rfl ?_
  refine G.subN (j := 1) rfl trivial rfl rfl rfl rfl (by omega) ?_
  refine G.moveI rfl trivial rfl rfl rfl ?_
  refine G.moveI rfl trivial rfl rfl rfl ?_
  refine G.addN (j := 1) rfl trivial rfl rfl rfl rfl (by omega) ?_
  refine G.moveP rfl trivial rfl rfl rfl ?_
  refine G.call E71 rfl rfl trivial rfl rfl (median_spec W0 ha te kk n cap rest hn d hd bs (a - 1) a (a + 1) s (by omega) (by omega) h1 hs) rfl ?_
  rintro e L2 ⟨rfl, rfl⟩
  refine G.assignI rfl trivial rfl rfl rfl ?_
  refine G.nil ?_
  refine C.ret ?_
  -- end 
  exact ⟨rfl, _, Res.of (rs := [.tmp 6]) rfl rfl, rfl, rfl⟩
omit ha hn in
theorem medianAdj_lt {d : Array Int} {a s n : Nat} (h0 : 1 ≤ a) (h1 : a + 1 < n) : (medianAdjacent ltInt d a s).1 < n ∧ (medianAdjacent ltInt d a s).2 ≤ s + 3 := median_lt (by omega) (by omega) h1
theorem choosePivot_spec (d : Array Int) (hd : d.size = n) (a b : Nat) (hab : a < b) (hb : b ≤ n) :
    FnS Try.prog W0 57 #[.slice (some ⟨bk, 0, none⟩) n cap, .int .i64 a, .int .i64 b] (u bk (.row (ic d rest) te kk))
      (fun e L' => L' = u bk (.row (ic d rest) te kk) ∧ e = .returned (.tuple #[.int .i64 ((choosePivot ltInt d a b).1 : Int), .int .i64 (hintCode (choosePivot ltInt d a b).2)])) := by
  refine FnS.of (args := [.slice (some ⟨bk, 0, none⟩) n cap, .int .i64 (a : Int), .int .i64 (b : Int)]) Try.func57 rfl rfl ?_
  refine C.seq ?_
  refine C.region ?_
  refine G.assignI rfl trivial rfl rfl rfl ?_
  refine G.assignI rfl trivial rfl rfl rfl ?_
  refine G.nil ?_
  refine C.seq ?_
  refine C.region ?_
  refine G.moveI rfl trivial rfl rfl rfl ?_
  refine G.moveI rfl trivial rfl rfl rfl ?_
  refine G.subN rfl trivial rfl rfl rfl rfl (by omega) ?_
  refine G.assignI rfl trivial rfl rfl rfl ?_
  refine G.nil ?_
  refine C.seq ?_
  refine C.region ?_
  refine G.allocC (cs := [(.int .i64 0)]) rfl trivial rfl rfl I3 rfl ?_
  intro b9
  refine G.nil ?_
  refine C.seq ?_
  refine C.region ?_
  refine G.moveI rfl trivial rfl rfl rfl ?_
  refine G.moveI rfl trivial rfl rfl rfl ?_
  refine G.quoN (j := 4) rfl trivial rfl rfl rfl rfl (by omega) ?_
  refine G.mulN (j := 1) rfl trivial rfl rfl rfl rfl (by omega) ?_
  refine G.addN rfl trivial rfl rfl rfl rfl (by omega) ?_
  refine G.assignI rfl trivial rfl rfl rfl ?_
  refine G.nil ?_
  refine C.seq ?_
  refine C.region ?_
  refine G.moveI rfl trivial rfl rfl rfl ?_
  refine G.moveI rfl trivial rfl rfl rfl ?_
  refine G.quoN (j := 4) rfl trivial rfl rfl rfl rfl (by omega) ?_
  refine G.mulN (j := 2) rfl trivial rfl rfl rfl rfl (by omega) ?_
  refine G.addN rfl trivial rfl rfl rfl rfl (by omega) ?_
  refine G.assignI rfl trivial rfl rfl rfl ?_
  refine G.nil ?_
  refine C.seq ?_
  refine C.region ?_
  refine G.moveI rfl trivial rfl rfl rfl ?_
  refine G.moveI rfl trivial rfl rfl rfl ?_
  refine G.quoN (j := 4) rfl trivial rfl rfl rfl rfl (by omega) ?_
  refine G.mulN (j := 3) rfl trivial rfl rfl rfl rfl (by omega) ?_
  refine G.addN rfl trivial rfl rfl rfl rfl (by omega) ?_
  refine G.assignI rfl trivial rfl rfl rfl ?_
  refine G.nil ?_
  refine C.seq ?_
  refine C.seq ?_
  refine C.region ?_
  refine G.moveI rfl trivial rfl rfl rfl ?_
  refine G.bin rfl trivial rfl rfl rfl rfl rfl ?_
  refine G.nil ?_
  refine C.cond _ rfl ?_ ?_
  · intro hc0
    refine C.seq ?_
    refine C.seq ?_
    refine C.region ?_
    refine G.moveI rfl trivial rfl rfl rfl ?_
    refine G.bin rfl trivial rfl rfl rfl rfl rfl ?_
    refine G.nil ?_
    refine C.cond _ rfl ?_ ?_
    · intro hc1
      have g1 := medianAdj_lt (d := d) (a := a + (b - a) / 4 * 1) (s := 0) (n := n) (by omega) (by omega)
      have g2 := medianAdj_lt (d := d) (a := a + (b - a) / 4 * 2) (s := (medianAdjacent ltInt d (a + (b - a) / 4 * 1) 0).2) (n := n) (by omega) (by omega)
      have g3 := medianAdj_lt (d := d) (a := a + (b - a) / 4 * 3) (s := (medianAdjacent ltInt d (a + (b - a) / 4 * 2) (medianAdjacent ltInt d (a + (b - a) / 4 * 1) 0).2).2) (n := n) (by omega) (by omega)
      refine C.seq ?_
      refine C.region ?_
      refine G.moveS rfl trivial rfl rfl rfl ?_
      refine G.moveI rfl trivial rfl rfl rfl ?_
      refine G.call E70 rfl rfl trivial rfl rfl (medianAdj_spec W0 ha te kk n cap rest hn d hd b9 (a + (b - a) / 4 * 1) 0 (by omega) (by omega) (by omega)) rfl ?_
      rintro e L2 ⟨rfl, rfl⟩
      refine G.assignI rfl trivial rfl rfl rfl ?_
      refine G.nil ?_
      refine C.seq ?_
      refine C.region ?_
      refine G.moveS rfl trivial rfl rfl rfl ?_
      refine G.moveI rfl trivial rfl rfl rfl ?_
      refine G.call E70 rfl rfl trivial rfl rfl (medianAdj_spec W0 ha te kk n cap rest hn d hd b9 (a + (b - a) / 4 * 2) (medianAdjacent ltInt d (a + (b - a) / 4 * 1) 0).2 (by omega) (by omega) (by omega)) rfl ?_
      rintro e L2 ⟨rfl, rfl⟩
      refine G.assignI rfl trivial rfl rfl rfl ?_
      refine G.nil ?_
      refine C.region ?_
      refine G.moveS rfl trivial rfl rfl rfl ?_
      refine G.moveI rfl trivial rfl rfl rfl ?_
      refine G.call E70 rfl rfl trivial rfl rfl (medianAdj_spec W0 ha te kk n cap rest hn d hd b9 (a + (b - a) / 4 * 3) (medianAdjacent ltInt d (a + (b - a) / 4 * 2) (medianAdjacent ltInt d (a + (b - a) / 4 * 1) 0).2).2 (by omega) (by omega) (by omega)) rfl ?_
      rintro e L2 ⟨rfl, rfl⟩
      refine G.assignI rfl trivial rfl rfl rfl ?_
      refine G.nil ?_
      refine C.region ?_
      refine G.moveS rfl trivial rfl rfl rfl ?_
      refine G.moveI rfl trivial rfl rfl rfl ?_
      refine G.moveI rfl trivial rfl rfl rfl ?_
      refine G.moveI rfl trivial rfl rfl rfl ?_
      refine G.call E71 rfl rfl trivial rfl rfl (median_spec W0 ha te kk n cap rest hn d hd b9 _ _ _ _ g1.1 g2.1 g3.1 (by omega)) rfl ?_
      rintro e L2 ⟨rfl, rfl⟩
      have hraw : rawPivot ltInt d a b = median ltInt d (medianAdjacent ltInt d (a + (b - a) / 4 * 1) 0).1 (medianAdjacent ltInt d (a + (b - a) / 4 * 2) (medianAdjacent ltInt d (a + (b - a) / 4 * 1) 0).2).1 (medianAdjacent ltInt d (a + (b - a) / 4 * 3) (medianAdjacent ltInt d (a + (b - a) / 4 * 2) (medianAdjacent ltInt d (a + (b - a) / 4 * 1) 0).2).2).1 (medianAdjacent ltInt d (a + (b - a) / 4 * 3) (medianAdjacent ltInt d (a + (b - a) / 4 * 2) (medianAdjacent ltInt d (a + (b - a) / 4 * 1) 0).2).2).2 := by
        unfold rawPivot
        rw [if_pos (by omega), if_pos (by omega)]
      refine G.assignI rfl trivial rfl rfl rfl ?_
      refine G.nil ?_
      refine C.seq ?_
      refine C.region ?_
      refine G.loadAt (by first | exact .here | exact .next .here | exact .next (.next .here) | exact .next (.next (.next .here)) | exact .next (.next (.next (.next .here))) | exact .next (.next (.next (.next (.next .here)))) | exact .next (.next (.next (.next (.next (.next .here))))) | exact .next (.next (.next (.next (.next (.next (.next .here)))))) | exact .in1 | exact .next .in1 | exact .next (.next .in1) | exact .next (.next (.next .in1)) | exact .next (.next (.next (.next .in1))) | exact .in2 | exact .next .in2 | exact .next (.next .in2) | exact .next (.next (.next .in2)) | exact .next (.next (.next (.next .in2))) | exact .app .here | exact .app (.next .here) | exact .app (.next (.next .here)) | exact .app (.next (.next (.next .here))) | exact .app (.next (.next (.next (.next .here)))) | exact .app (.next (.next (.next (.next (.next .here))))) | exact .app (.next (.next (.next (.next (.next (.next .here)))))) | exact .app (.next (.next (.next (.next (.next (.next (.next .here))))))) | exact .app .in1 | exact .app .in2 | exact .app (.next .in1) | exact .next (.app .in1) | exact .next (.next (.app .in1)) | exact .next (.app .here) | exact .next (.next (.app .here)) | exact .next (.next (.next (.app .here))) | exact .next (.next (.next (.next (.app .here))))) rfl trivial rfl rfl Try.underlying3 rfl rfl (by rfl) ?_
      refine G.nil ?_
      refine C.block ?_
      refine C.seq ?_
      refine C.region ?_
      refine G.bin rfl trivial rfl rfl rfl rfl rfl ?_
      refine G.assignB rfl trivial rfl rfl rfl ?_
      refine G.nil ?_
      refine C.cond _ rfl ?_ ?_
      · intro hc2
        refine C.seq ?_
        refine C.region ?_
        refine G.moveI rfl trivial rfl rfl rfl ?_
        refine G.assignI rfl trivial rfl rfl rfl ?_
        refine G.assignI rfl trivial rfl rfl rfl ?_
        refine G.nil ?_
        refine C.less (fun _ h => h.tail) ?_
        refine C.ret ?_
        -- end c0Tc1Tc2T
        exact ⟨rfl, _, Res.of (rs := [.tmp 6, .tmp 7]) rfl rfl, rfl, by rw [choosePivot_eq, hraw]; unfold hintOf; rw [if_pos (by omega)]; rfl⟩
      · intro hc2
        refine C.seq ?_
        refine C.region ?_
        refine G.bin rfl trivial rfl rfl rfl rfl rfl ?_
        refine G.assignB rfl trivial rfl rfl rfl ?_
        refine G.nil ?_
        refine C.cond _ rfl ?_ ?_
        · intro hc3
          refine C.seq ?_
          refine C.region ?_
          refine G.moveI rfl trivial rfl rfl rfl ?_
          refine G.assignI rfl trivial rfl rfl rfl ?_
          refine G.assignI rfl trivial rfl rfl rfl ?_
          refine G.nil ?_
          refine C.less (fun _ h => h.tail) ?_
          refine C.ret ?_
          -- end c0Tc1Tc2Fc3T
          exact ⟨rfl, _, Res.of (rs := [.tmp 6, .tmp 7]) rfl rfl, rfl, by rw [choosePivot_eq, hraw]; unfold hintOf; rw [if_neg (by omega), if_pos (by omega)]; rfl⟩
        · intro hc3
          refine C.seq ?_
          refine C.region ?_
          refine G.moveI rfl trivial rfl rfl rfl ?_
          refine G.assignI rfl trivial rfl rfl rfl ?_
          refine G.assignI rfl trivial rfl rfl rfl ?_
          refine G.nil ?_
          refine C.less (fun _ h => h.tail) ?_
          refine C.ret ?_
          -- end c0Tc1Tc2Fc3F
          exact ⟨rfl, _, Res.of (rs := [.tmp 6, .tmp 7]) rfl rfl, rfl, by rw [choosePivot_eq, hraw]; unfold hintOf; rw [if_neg (by omega), if_neg (by omega)]; rfl⟩
    · intro hc1
      refine C.skip ?_
      refine C.region ?_
      refine G.moveS rfl trivial rfl rfl rfl ?_
      refine G.moveI rfl trivial rfl rfl rfl ?_
      refine G.moveI rfl trivial rfl rfl rfl ?_
      refine G.moveI rfl trivial rfl rfl rfl ?_
      refine G.call E71 rfl rfl trivial rfl rfl (median_spec W0 ha te kk n cap rest hn d hd b9 (a + (b - a) / 4 * 1) (a + (b - a) / 4 * 2) (a + (b - a) / 4 * 3) 0 (by omega) (by omega) (by omega) (by omega)) rfl ?_
      rintro e L2 ⟨rfl, rfl⟩
      have hraw : rawPivot ltInt d a b = median ltInt d (a + (b - a) / 4 * 1) (a + (b - a) / 4 * 2) (a + (b - a) / 4 * 3) 0 := by
        unfold rawPivot
        rw [if_pos (by omega), if_neg (by omega)]
      refine G.assignI rfl trivial rfl rfl rfl ?_
      refine G.nil ?_
      refine C.seq ?_
      refine C.region ?_
      refine G.loadAt (by first | exact .here | exact .next .here | exact .next (.next .here) | exact .next (.next (.next .here)) | exact .next (.next (.next (.next .here))) | exact .next (.next (.next (.next (.next .here)))) | exact .next (.next (.next (.next (.next (.next .here))))) | exact .next (.next (.next (.next (.next (.next (.next .here)))))) | exact .in1 | exact .next .in1 | exact .next (.next .in1) | exact .next (.next (.next .in1)) | exact .next (.next (.next (.next .in1))) | exact .in2 | exact .next .in2 | exact .next (.next .in2) | exact .next (.next (.next .in2)) | exact .next (.next (.next (.next .in2))) | exact .app .here | exact .app (.next .here) | exact .app (.next (.next .here)) | exact .app (.next (.next (.next .here))) | exact .app (.next (.next (.next (.next .here)))) | exact .app (.next (.next (.next (.next (.next .here))))) | exact .app (.next (.next (.next (.next (.next (.next .here)))))) | exact .app (.next (.next (.next (.next (.next (.next (.next .here))))))) | exact .app .in1 | exact .app .in2 | exact .app (.next .in1) | exact .next (.app .in1) | exact .next (.next (.app .in1)) | exact .next (.app .here) | exact .next (.next (.app .here)) | exact .next (.next (.next (.app .here))) | exact .next (.next (.next (.next (.app .here))))) rfl trivial rfl rfl Try.underlying3 rfl rfl (by rfl) ?_
      refine G.nil ?_
      refine C.block ?_
      refine C.seq ?_
      refine C.region ?_
      refine G.bin rfl trivial rfl rfl rfl rfl rfl ?_
      refine G.assignB rfl trivial rfl rfl rfl ?_
      refine G.nil ?_
      refine C.cond _ rfl ?_ ?_
      · intro hc2
        refine C.seq ?_
        refine C.region ?_
        refine G.moveI rfl trivial rfl rfl rfl ?_
        refine G.assignI rfl trivial rfl rfl rfl ?_
        refine G.assignI rfl trivial rfl rfl rfl ?_
        refine G.nil ?_
        refine C.less (fun _ h => h.tail) ?_
        refine C.ret ?_
        -- end c0Tc1Fc2T
        exact ⟨rfl, _, Res.of (rs := [.tmp 6, .tmp 7]) rfl rfl, rfl, by rw [choosePivot_eq, hraw]; unfold hintOf; rw [if_pos (by omega)]; rfl⟩
      · intro hc2
        refine C.seq ?_
        refine C.region ?_
        refine G.bin rfl trivial rfl rfl rfl rfl rfl ?_
        refine G.assignB rfl trivial rfl rfl rfl ?_
        refine G.nil ?_
        refine C.cond _ rfl ?_ ?_
        · intro hc3
          refine C.seq ?_
          refine C.region ?_
          refine G.moveI rfl trivial rfl rfl rfl ?_
          refine G.assignI rfl trivial rfl rfl rfl ?_
          refine G.assignI rfl trivial rfl rfl rfl ?_
          refine G.nil ?_
          refine C.less (fun _ h => h.tail) ?_
          refine C.ret ?_
          -- end c0Tc1Fc2Fc3T
          exact ⟨rfl, _, Res.of (rs := [.tmp 6, .tmp 7]) rfl rfl, rfl, by rw [choosePivot_eq, hraw]; unfold hintOf; rw [if_neg (by omega), if_pos (by omega)]; rfl⟩
        · intro hc3
          refine C.seq ?_
          refine C.region ?_
          refine G.moveI rfl trivial rfl rfl rfl ?_
          refine G.assignI rfl trivial rfl rfl rfl ?_
          refine G.assignI rfl trivial rfl rfl rfl ?_
          refine G.nil ?_
          refine C.less (fun _ h => h.tail) ?_
          refine C.ret ?_
          -- end c0Tc1Fc2Fc3F
          exact ⟨rfl, _, Res.of (rs := [.tmp 6, .tmp 7]) rfl rfl, rfl, by rw [choosePivot_eq, hraw]; unfold hintOf; rw [if_neg (by omega), if_neg (by omega)]; rfl⟩
  · intro hc0
    have hraw : rawPivot ltInt d a b = (a + (b - a) / 4 * 2, 0) := by
      unfold rawPivot
      rw [if_neg (by omega)]
    refine C.skip ?_
    refine C.seq ?_
    refine C.region ?_
    refine G.loadAt (by first | exact .here | exact .next .here | exact .next (.next .here) | exact .next (.next (.next .here)) | exact .next (.next (.next (.next .here))) | exact .next (.next (.next (.next (.next .here)))) | exact .next (.next (.next (.next (.next (.next .here))))) | exact .next (.next (.next (.next (.next (.next (.next .here)))))) | exact .in1 | exact .next .in1 | exact .next (.next .in1) | exact .next (.next (.next .in1)) | exact .next (.next (.next (.next .in1))) | exact .in2 | exact .next .in2 | exact .next (.next .in2) | exact .next (.next (.next .in2)) | exact .next (.next (.next (.next .in2))) | exact .app .here | exact .app (.next .here) | exact .app (.next (.next .here)) | exact .app (.next (.next (.next .here))) | exact .app (.next (.next (.next (.next .here)))) | exact .app (.next (.next (.next (.next (.next .here))))) | exact .app (.next (.next (.next (.next (.next (.next .here)))))) | exact .app (.next (.next (.next (.next (.next (.next (.next .here))))))) | exact .app .in1 | exact .app .in2 | exact .app (.next .in1) | exact .next (.app .in1) | exact .next (.next (.app .in1)) | exact .next (.app .here) | exact .next (.next (.app .here)) | exact .next (.next (.next (.app .here))) | exact .next (.next (.next (.next (.app .here))))) rfl trivial rfl rfl Try.underlying3 rfl rfl (by rfl) ?_
    refine G.nil ?_
    refine C.block ?_
    refine C.seq ?_
    refine C.region ?_
    refine G.bin rfl trivial rfl rfl rfl rfl rfl ?_
    refine G.assignB rfl trivial rfl rfl rfl ?_
    refine G.nil ?_
    refine C.cond _ rfl ?_ ?_
    · intro hc2
      refine C.seq ?_
      refine C.region ?_
      refine G.moveI rfl trivial rfl rfl rfl ?_
      refine G.assignI rfl trivial rfl rfl rfl ?_
      refine G.assignI rfl trivial rfl rfl rfl ?_
      refine G.nil ?_
      refine C.less (fun _ h => h.tail) ?_
      refine C.ret ?_
      -- end c0Fc2T
      exact ⟨rfl, _, Res.of (rs := [.tmp 6, .tmp 7]) rfl rfl, rfl, by rw [choosePivot_eq, hraw]; unfold hintOf; rw [if_pos (by omega)]; rfl⟩
    · intro hc2
      refine C.seq ?_
      refine C.region ?_
      refine G.bin rfl trivial rfl rfl rfl rfl rfl ?_
      refine G.assignB rfl trivial rfl rfl rfl ?_
      refine G.nil ?_
      refine C.cond _ rfl ?_ ?_
      · intro hc3
        refine C.seq ?_
        refine C.region ?_
        refine G.moveI rfl trivial rfl rfl rfl ?_
        refine G.assignI rfl trivial rfl rfl rfl ?_
        refine G.assignI rfl trivial rfl rfl rfl ?_
        refine G.nil ?_
        refine C.less (fun _ h => h.tail) ?_
        refine C.ret ?_
        -- end c0Fc2Fc3T
        exact ⟨rfl, _, Res.of (rs := [.tmp 6, .tmp 7]) rfl rfl, rfl, by rw [choosePivot_eq, hraw]; unfold hintOf; rw [if_neg (by omega), if_pos (by omega)]; rfl⟩
      · intro hc3
        refine C.seq ?_
        refine C.region ?_
        refine G.moveI rfl trivial rfl rfl rfl ?_
        refine G.assignI rfl trivial rfl rfl rfl ?_
        refine G.assignI rfl trivial rfl rfl rfl ?_
        refine G.nil ?_
        refine C.less (fun _ h => h.tail) ?_
        refine C.ret ?_
        -- end c0Fc2Fc3F
        exact ⟨rfl, _, Res.of (rs := [.tmp 6, .tmp 7]) rfl rfl, rfl, by rw [choosePivot_eq, hraw]; unfold hintOf; rw [if_neg (by omega), if_neg (by omega)]; rfl⟩
omit ha hn in
theorem revLoop_go {i j : Nat} {d : Array Int} (h : i < j) : reverseLoop i j d = reverseLoop (i + 1) (j - 1) (swp d i j) := by
  conv => lhs; unfold reverseLoop
  rw [if_pos h]
omit ha hn in
theorem revLoop_end {i j : Nat} {d : Array Int} (h : ¬ i < j) : reverseLoop i j d = d := by
  unfold reverseLoop
  rw [if_neg h]
theorem reverse_spec (d : Array Int) (hd : d.size = n) (a b : Nat) (hab : a < b) (hb : b ≤ n) :
    Sorts W0 58 #[.slice (some ⟨bk, 0, none⟩) n cap, .int .i64 a, .int .i64 b] (u bk (.row (ic d rest) te kk)) (u bk (.row (ic (reverseRange d a b) rest) te kk)) := by
  unfold Sorts
  refine FnS.of (args := [.slice (some ⟨bk, 0, none⟩) n cap, .int .i64 (a : Int), .int .i64 (b : Int)]) Try.func58 rfl rfl ?_
  refine C.seq ?_
  refine C.region ?_
  refine G.moveI rfl trivial rfl rfl rfl ?_
  refine G.assignI rfl trivial rfl rfl rfl ?_
  refine G.nil ?_
  refine C.seq ?_
  refine C.region ?_
  refine G.moveI rfl trivial rfl rfl rfl ?_
  refine G.subN (j := 1) rfl trivial rfl rfl rfl rfl (by omega) ?_
  refine G.assignI rfl trivial rfl rfl rfl ?_
  refine G.nil ?_
  refine C.block ?_
  refine C.loop (fun m F D' L' => ∃ (i j : Nat) (e : Array Int), m = j + 1 - i ∧ j < n ∧ e.size = n ∧ reverseLoop i j e = reverseRange d a b ∧ F 0 = .slice (some ⟨bk, 0, none⟩) n cap ∧ F 6 = .int .i64 (i : Int) ∧ F 7 = .int .i64 (j : Int) ∧ D' = [] ∧ u bk (.row (ic e rest) te kk) = L') ⟨_, ⟨a, b - 1, d, rfl, by omega, hd, rfl, rfl, rfl, rfl, rfl, rfl⟩⟩ ?_
  rintro m F D' L' ⟨i, j, e, rfl, hj, he, hre, h0, h6, h7, rfl, rfl⟩
  refine C.fix (d := 0) h0 ?_
  refine C.fix (d := 6) h6 ?_
  refine C.fix (d := 7) h7 ?_
  refine C.seq ?_
  refine C.seq ?_
  refine C.region ?_
  refine G.moveI rfl trivial rfl rfl rfl ?_
  refine G.moveI rfl trivial rfl rfl rfl ?_
  refine G.bin rfl trivial rfl rfl rfl rfl rfl ?_
  refine G.nil ?_
  refine C.cond _ rfl ?_ ?_
  · intro hc0
    have hlt : i < j := by omega
    refine C.skip ?_
    refine C.block ?_
    refine C.seq ?_
    refine C.drawn mixed (_) [13, 15] (fun _ h => h) ?_
    refine GA.pure (i := 0) (fun _ _ _ _ _ h => h) rfl (by kernel_rfl) trivial rfl rfl (Y.moveS rfl rfl) (#[true, false, false, false, false, false, false, false, false, false, false, false, false, false, false, false]) (by kernel_rfl) ?_
    refine GA.pure (i := 1) (fun _ _ _ _ _ h => h) rfl (by kernel_rfl) trivial rfl rfl (Y.moveI rfl rfl) (#[true, true, false, false, false, false, false, false, false, false, false, false, false, false, false, false]) (by kernel_rfl) ?_
    refine GA.pure (i := 2) (fun _ _ _ _ _ h => h) rfl (by kernel_rfl) trivial rfl rfl (Y.moveS rfl rfl) (#[true, true, true, false, false, false, false, false, false, false, false, false, false, false, false, false]) (by kernel_rfl) ?_
    refine GA.pure (i := 3) (fun _ _ _ _ _ h => h) rfl (by kernel_rfl) trivial rfl rfl (Y.moveI rfl rfl) (#[true, true, true, true, false, false, false, false, false, false, false, false, false, false, false, false]) (by kernel_rfl) ?_
    refine GA.pure (i := 4) (fun _ _ _ _ _ h => h) rfl (by kernel_rfl) trivial rfl rfl (Y.moveS rfl rfl) (#[true, true, true, true, true, false, false, false, false, false, false, false, false, false, false, false]) (by kernel_rfl) ?_
    refine GA.pure (i := 5) (fun _ _ _ _ _ h => h) rfl (by kernel_rfl) trivial rfl rfl (Y.moveI rfl rfl) (#[true, true, true, true, true, true, false, false, false, false, false, false, false, false, false, false]) (by kernel_rfl) ?_
    refine GA.pure (i := 6) (fun _ _ _ _ _ h => h) rfl (by kernel_rfl) trivial rfl rfl (Y.idxN rfl Try.underlying27 I2 rfl rfl (by omega)) (#[true, true, true, true, true, true, true, false, false, false, false, false, false, false, false, false]) (by kernel_rfl) ?_
    refine GA.read (i := 7) (fun _ _ _ _ _ h => h) rfl (by kernel_rfl) (by kernel_rfl) trivial rfl rfl (Y.ldI (by first | exact ha.again _ | exact .next (ha.again _) | exact .next (.next (ha.again _))) rfl Try.underlying2 rfl rfl (by omega)) (#[true, true, true, true, true, true, true, true, false, false, false, false, false, false, false, false]) (by kernel_rfl) ?_
    refine GA.pure (i := 8) (fun _ _ _ _ _ h => h) rfl (by kernel_rfl) trivial rfl rfl (Y.moveS rfl rfl) (#[true, true, true, true, true, true, true, true, true, false, false, false, false, false, false, false]) (by kernel_rfl) ?_
    refine GA.pure (i := 9) (fun _ _ _ _ _ h => h) rfl (by kernel_rfl) trivial rfl rfl (Y.moveI rfl rfl) (#[true, true, true, true, true, true, true, true, true, true, false, false, false, false, false, false]) (by kernel_rfl) ?_
    refine GA.pure (i := 10) (fun _ _ _ _ _ h => h) rfl (by kernel_rfl) trivial rfl rfl (Y.idxN rfl Try.underlying27 I2 rfl rfl (by omega)) (#[true, true, true, true, true, true, true, true, true, true, true, false, false, false, false, false]) (by kernel_rfl) ?_
    refine GA.read (i := 11) (fun _ _ _ _ _ h => h) rfl (by kernel_rfl) (by kernel_rfl) trivial rfl rfl (Y.ldI (by first | exact ha.again _ | exact .next (ha.again _) | exact .next (.next (ha.again _))) rfl Try.underlying2 rfl rfl (by omega)) (#[true, true, true, true, true, true, true, true, true, true, true, true, false, false, false, false]) (by kernel_rfl) ?_
    refine GA.pure (i := 12) (fun _ _ _ _ _ h => h) rfl (by kernel_rfl) trivial rfl rfl (Y.idxN rfl Try.underlying27 I2 rfl rfl (by omega)) (#[true, true, true, true, true, true, true, true, true, true, true, true, true, false, false, false]) (by kernel_rfl) ?_
    refine GA.one (i := 13) rfl (by kernel_rfl) (#[true, true, true, true, true, true, true, true, true, true, true, true, true, true, false, false]) (by kernel_rfl) ?_
    refine G.stI (by first | exact ha.again _ | exact .next (ha.again _) | exact .next (.next (ha.again _))) rfl trivial rfl I2 rfl rfl (by first | omega | (simp only [Array.size_setIfInBounds]; omega)) ?_
    refine G.nil ?_
    refine ⟨fun _ h => absurd h (by simp [hit]), ?_⟩
    refine GA.pure (i := 14) (fun _ _ _ _ _ h => h) rfl (by kernel_rfl) trivial rfl rfl (Y.idxN rfl Try.underlying27 I2 rfl rfl (by omega)) (#[true, true, true, true, true, true, true, true, true, true, true, true, true, true, true, false]) (by kernel_rfl) ?_
    refine GA.one (i := 15) rfl (by kernel_rfl) (#[true, true, true, true, true, true, true, true, true, true, true, true, true, true, true, true]) (by kernel_rfl) ?_
    refine G.stI (by first | exact ha.again _ | exact .next (ha.again _) | exact .next (.next (ha.again _))) rfl trivial rfl I2 rfl rfl (by first | omega | (simp only [Array.size_setIfInBounds]; omega)) ?_
    refine G.nil ?_
    refine ⟨fun _ h => absurd h (by simp [hit]), ?_⟩
    refine GA.done (by kernel_rfl) ?_
    refine C.seq ?_
    refine C.region ?_
    refine G.moveI rfl trivial rfl rfl rfl ?_
    refine G.addN (j := 1) rfl trivial rfl rfl rfl rfl (by omega) ?_
    refine G.assignI rfl trivial rfl rfl rfl ?_
    refine G.nil ?_
    refine C.region ?_
    refine G.moveI rfl trivial rfl rfl rfl ?_
    refine G.subN (j := 1) rfl trivial rfl rfl rfl rfl (by omega) ?_
    refine G.assignI rfl trivial rfl rfl rfl ?_
    refine G.nil ?_
    refine ⟨j - 1 + 1 - (i + 1), by omega, i + 1, j - 1, swp e i j, rfl, by omega, by rw [swp_size]; exact he, ?_, rfl, rfl, rfl, rfl, rfl⟩
    rw [← revLoop_go hlt]
    exact hre
  · intro hc0
    refine C.exit ?_
    -- end c0F
    exact ⟨rfl, _, Res.of (rs := []) rfl rfl, by rw [← hre, revLoop_end (by omega)], rfl⟩
end sort
end Go.Proofs.Ytomiidlbfcfpiaa
