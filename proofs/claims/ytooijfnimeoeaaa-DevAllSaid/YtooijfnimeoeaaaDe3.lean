/-
  DevAll walked.
-/
import Derived.Test.YtooijfnimeoeaaaDe2
namespace Go.Proofs.Ytooijfnimeoeaaa
open Go Go.SL Go.RowKit

abbrev zb (b : Nat) : WB := (b, 64, 64, zero64)
theorem canon {W0 w : World} {A B C D x y P E j1 j2 j3 : Seg} (h : Mem W0 w (A :: B :: C :: D :: P :: E :: x :: j1 :: y :: j2 :: j3 :: [])) : Mem W0 w (A :: B :: C :: D :: (x ++ (y ++ P)) :: E :: []) := by
  have h1 : Mem W0 w (j1 :: x :: y :: A :: B :: C :: D :: P :: E :: []) := ((h.of_flat (List.perm_append_comm_assoc [A, B, C, D, P, E, x, j1, y] [j2, j3] []).flatten).tail.tail.of_flat (List.perm_append_comm_assoc [A, B, C, D, P, E] [x, j1, y] []).flatten).perm2
  have h2 : Mem W0 w (A :: B :: C :: D :: x :: y :: P :: E :: []) := h1.tail.of_flat (List.perm_append_comm_assoc [x, y] [A, B, C, D] [P, E]).flatten
  exact h2.of_flat (by simp)
theorem drop_y {W0 w : World} {A B C D E x y : Seg} {L : List Seg} (h : Mem W0 w (A :: B :: C :: D :: E :: x :: y :: L)) : Mem W0 w (A :: B :: C :: D :: E :: x :: L) :=
  (h.of_flat (List.perm_append_comm_assoc [A, B, C, D, E, x] [y] L).flatten).tail
theorem wdead_is (W0 : World) (bw : Nat) {l : List Sec} {c f : Int} {W sN sS sL P : Seg} (h : WIs bw l c f W sN sS sL P) (L : List Seg) : FnS Try.prog W0 12 #[ptr bw] (W :: L) (fun e L' => L' = W :: L ∧ e = .returned (.bool (decide (f = 0)))) := by
  obtain ⟨ns, ss, pl, bn, cn, kn, bS, cS, kS, bl, cl, kl, rfl, _⟩ := h
  exact wdead_spec W0 bw _ _ _ c f L
section laws
variable (W0 : World)
set_option maxHeartbeats 4000000 in
theorem all_loop (a : Option Addr) (len cap : Nat) (ops : List DOp) (h : DOps W0 a len cap ops) (n : Int) (hn : -9223372036854775808 ≤ n ∧ n ≤ 9223372036854775807) :
    FnS Try.prog W0 3 #[.int .i64 n, .slice a len cap] [] (fun e _ => e = .returned (.bool true)) := by
  obtain ⟨rfl, hlc, hcap, hr, hwf⟩ := h
  have hmax : maxLen ≤ 9223372036854775807 := by decide
  obtain ⟨N, hN⟩ : ∃ N, N = clamp8 n := ⟨_, rfl⟩
  have hN8 : 1 ≤ N ∧ N ≤ 8 := by rw [hN]; exact clamp8_in n
  refine FnS.of (args := [.int .i64 n, .slice a ops.length cap]) Try.func3 rfl rfl ?_
  refine C.seq ?_
  refine C.region ?_
  refine G.assignB rfl trivial rfl rfl rfl ?_
  refine G.nil ?_
  refine C.seq ?_
  refine C.region ?_
  refine G.call E9 rfl rfl trivial rfl rfl (beganD_spec W0 _) rfl ?_
  rintro e L2 ⟨rfl, rfl⟩
  refine G.assignB rfl trivial rfl rfl rfl ?_
  refine G.nil ?_
  refine C.seq ?_
  refine C.seq ?_
  refine C.region ?_
  refine G.moveB rfl trivial rfl rfl rfl ?_
  first | refine G.notD rfl trivial rfl rfl rfl ?_ | refine G.not rfl trivial rfl rfl rfl ?_
  refine G.nil ?_
  refine C.condF rfl ?_
  refine C.skip ?_
  refine C.seq ?_
  refine C.region ?_
  refine G.moveI rfl trivial rfl rfl rfl ?_
  refine G.min2 rfl trivial rfl rfl rfl rfl ?_
  refine G.max2 rfl trivial rfl rfl rfl rfl ?_
  refine G.fix (d := 18) (v := .int .i64 (N : Int)) (by show Value.int .i64 _ = _; congr 1; rw [hN]; unfold clamp8; split <;> (try split) <;> (try split) <;> omega) ?_
  refine G.assignI rfl trivial rfl rfl rfl ?_
  refine G.nil ?_
  refine C.seq ?_
  refine C.region ?_
  refine G.moveI rfl trivial rfl rfl rfl ?_
  refine G.call E10 rfl rfl trivial rfl rfl (new_spec W0 [] (N : Int)) rfl ?_
  rintro e L2 ⟨bd, b2, rfl, rfl⟩
  rw [show clampN (N : Int) = N by unfold clampN; split <;> (try split) <;> omega]
  refine G.assignP rfl trivial rfl rfl rfl ?_
  refine G.nil ?_
  refine C.seq ?_
  refine C.region ?_
  refine G.buildL (cs := [.slice none 0 0, .slice none 0 0, .slice none 0 0, .int .i64 0, .int .i64 (-1)]) rfl trivial rfl rfl Try.underlying30 I30 B30 rfl rfl ?_
  refine G.boxG rfl trivial rfl rfl rfl ?_
  intro b22
  refine G.assignP rfl trivial rfl rfl rfl ?_
  refine G.nil ?_
  refine C.seq ?_
  refine C.seq ?_
  refine C.region ?_
  refine G.assignI rfl trivial rfl rfl rfl ?_
  refine G.less (fun _ h => h.of_flat (L' := wSeg b22 (.slice none 0 0) (.slice none 0 0) (.slice none 0 0) 0 (-1) :: [] :: [] :: [] :: [] :: devSeg bd b2 (newDv N) :: []) (by simp)) ?_
  refine G.nil ?_
  refine C.block ?_
  refine C.loop (fun m F D' L' => ∃ (i : Nat) (ns ss pl : List WB) (aN aS aL : Option Addr) (cN cS cL : Nat) (sN sS sL : Seg), m = N - i + 0 ∧ i ≤ N ∧ ns.length = i ∧ ss.length = i ∧ OwnS (.slice aN i cN) i (ns.map wslot) 31 1 sN ∧ OwnS (.slice aS i cS) i (ss.map wslot) 31 1 sS ∧ OwnS (.slice aL i cL) i (List.replicate i (.bool false)) 4 1 sL ∧ (∀ e ∈ ns, e ∈ pl) ∧ (∀ e ∈ ss, e ∈ pl) ∧ (∀ e ∈ pl, e.2.2.2 = zero64) ∧ F 0 = .int .i64 (N : Int) ∧ F 1 = .slice a ops.length cap ∧ F 6 = ptr bd ∧ F 7 = ptr b22 ∧ F 8 = .int .i64 (i : Int) ∧ D' = [] ∧ wSeg b22 (.slice aN i cN) (.slice aS i cS) (.slice aL i cL) 0 (-1) :: sN :: sS :: sL :: pl.map wblk :: devSeg bd b2 (newDv N) :: [] = L') ⟨_, ⟨0, [], [], [], none, none, none, 0, 0, 0, [], [], [], rfl, Nat.zero_le _, rfl, rfl, OwnS.nil _ _, OwnS.nil _ _, OwnS.nil _ _, by simp, by simp, by simp, rfl, rfl, rfl, rfl, rfl, rfl, rfl⟩⟩ ?_
  rintro m F D' L' ⟨i, ns, ss, pl, aN, aS, aL, cN, cS, cL, sN, sS, sL, rfl, hi, hnl, hsl, hoN, hoS, hoL, hnp, hsp, hz, h0, h1', h6, h7, h8, rfl, rfl⟩
  refine C.fix (d := 0) h0 ?_
  refine C.fix (d := 1) h1' ?_
  refine C.fix (d := 6) h6 ?_
  refine C.fix (d := 7) h7 ?_
  refine C.fix (d := 8) h8 ?_
  refine C.seq ?_
  refine C.seq ?_
  refine C.region ?_
  refine G.moveI rfl trivial rfl rfl rfl ?_
  refine G.moveI rfl trivial rfl rfl rfl ?_
  refine G.bin rfl trivial rfl rfl rfl rfl rfl ?_
  refine G.nil ?_
  refine C.cond _ rfl ?_ ?_
  · intro hc1
    refine C.skip ?_
    refine C.seq ?_
    refine C.block ?_
    refine C.drawn mixed ([wSeg b22 (.slice aN i cN) (.slice aS i cS) (.slice aL i cL) 0 (-1)]) [25, 28, 31] (fun _ h => mem_one (by simp) h) ?_
    refine GA.pure (i := 0) (fun _ _ _ _ _ h => h) rfl (by kernel_rfl) trivial rfl rfl (Y.moveP rfl rfl) (#[true, false, false, false, false, false, false, false, false, false, false, false, false, false, false, false, false, false, false, false, false, false, false, false, false, false, false, false, false, false, false, false]) (by kernel_rfl) ?_
    refine GA.pure (i := 1) (fun _ _ _ _ _ h => h) rfl (by kernel_rfl) trivial rfl rfl (Y.moveP rfl rfl) (#[true, true, false, false, false, false, false, false, false, false, false, false, false, false, false, false, false, false, false, false, false, false, false, false, false, false, false, false, false, false, false, false]) (by kernel_rfl) ?_
    refine GA.pure (i := 2) (fun _ _ _ _ _ h => h) rfl (by kernel_rfl) trivial rfl rfl (Y.moveP rfl rfl) (#[true, true, true, false, false, false, false, false, false, false, false, false, false, false, false, false, false, false, false, false, false, false, false, false, false, false, false, false, false, false, false, false]) (by kernel_rfl) ?_
    refine GA.pure (i := 3) (fun _ _ _ _ _ h => h) rfl (by kernel_rfl) trivial rfl rfl (Y.moveP rfl rfl) (#[true, true, true, true, false, false, false, false, false, false, false, false, false, false, false, false, false, false, false, false, false, false, false, false, false, false, false, false, false, false, false, false]) (by kernel_rfl) ?_
    first | refine GA.pure (i := 4) (fun _ _ _ _ _ h => h) rfl (by kernel_rfl) trivial rfl rfl (Y.nilCheckP rfl rfl) (#[true, true, true, true, true, false, false, false, false, false, false, false, false, false, false, false, false, false, false, false, false, false, false, false, false, false, false, false, false, false, false, false]) (by kernel_rfl) ?_ | refine GA.pure (i := 4) (fun _ _ _ _ _ h => h) rfl (by kernel_rfl) trivial rfl rfl (Y.nilCheckF rfl rfl) (#[true, true, true, true, true, false, false, false, false, false, false, false, false, false, false, false, false, false, false, false, false, false, false, false, false, false, false, false, false, false, false, false]) (by kernel_rfl) ?_
    refine GA.pure (i := 5) (fun _ _ _ _ _ h => h) rfl (by kernel_rfl) trivial rfl rfl (Y.fieldAddr rfl Try.underlying30 rfl I27 rfl rfl) (#[true, true, true, true, true, true, false, false, false, false, false, false, false, false, false, false, false, false, false, false, false, false, false, false, false, false, false, false, false, false, false, false]) (by kernel_rfl) ?_
    refine GA.read (i := 6) (fun _ _ _ _ _ h => h) rfl (by kernel_rfl) (by kernel_rfl) trivial rfl rfl (Y.loadAt (by first | exact .here | exact .next .here | exact .next (.next .here) | exact .next (.next (.next .here)) | exact .next (.next (.next (.next .here))) | exact .next (.next (.next (.next (.next .here)))) | exact .next (.next (.next (.next (.next (.next .here))))) | exact .next (.next (.next (.next (.next (.next (.next .here)))))) | exact .in1 | exact .next .in1 | exact .next (.next .in1) | exact .next (.next (.next .in1)) | exact .next (.next (.next (.next .in1))) | exact .in2 | exact .next .in2 | exact .next (.next .in2) | exact .next (.next (.next .in2)) | exact .next (.next (.next (.next .in2))) | exact .app .here | exact .app (.next .here) | exact .app (.next (.next .here)) | exact .app (.next (.next (.next .here))) | exact .app (.next (.next (.next (.next .here)))) | exact .app (.next (.next (.next (.next (.next .here))))) | exact .app (.next (.next (.next (.next (.next (.next .here)))))) | exact .app (.next (.next (.next (.next (.next (.next (.next .here))))))) | exact .app .in1 | exact .app .in2 | exact .app (.next .in1) | exact .next (.app .in1) | exact .next (.next (.app .in1)) | exact .next (.app .here) | exact .next (.next (.app .here)) | exact .next (.next (.next (.app .here))) | exact .next (.next (.next (.next (.app .here))))) rfl Try.underlying27 rfl rfl (by rfl)) (#[true, true, true, true, true, true, true, false, false, false, false, false, false, false, false, false, false, false, false, false, false, false, false, false, false, false, false, false, false, false, false, false]) (by kernel_rfl) ?_
    refine GA.pure (i := 10) (fun _ _ _ _ _ h => h) rfl (by kernel_rfl) trivial rfl rfl (Y.moveP rfl rfl) (#[true, true, true, true, true, true, true, false, false, false, true, false, false, false, false, false, false, false, false, false, false, false, false, false, false, false, false, false, false, false, false, false]) (by kernel_rfl) ?_
    first | refine GA.pure (i := 11) (fun _ _ _ _ _ h => h) rfl (by kernel_rfl) trivial rfl rfl (Y.nilCheckP rfl rfl) (#[true, true, true, true, true, true, true, false, false, false, true, true, false, false, false, false, false, false, false, false, false, false, false, false, false, false, false, false, false, false, false, false]) (by kernel_rfl) ?_ | refine GA.pure (i := 11) (fun _ _ _ _ _ h => h) rfl (by kernel_rfl) trivial rfl rfl (Y.nilCheckF rfl rfl) (#[true, true, true, true, true, true, true, false, false, false, true, true, false, false, false, false, false, false, false, false, false, false, false, false, false, false, false, false, false, false, false, false]) (by kernel_rfl) ?_
    refine GA.pure (i := 12) (fun _ _ _ _ _ h => h) rfl (by kernel_rfl) trivial rfl rfl (Y.fieldAddr rfl Try.underlying30 rfl I27 rfl rfl) (#[true, true, true, true, true, true, true, false, false, false, true, true, true, false, false, false, false, false, false, false, false, false, false, false, false, false, false, false, false, false, false, false]) (by kernel_rfl) ?_
    refine GA.read (i := 13) (fun _ _ _ _ _ h => h) rfl (by kernel_rfl) (by kernel_rfl) trivial rfl rfl (Y.loadAt (by first | exact .here | exact .next .here | exact .next (.next .here) | exact .next (.next (.next .here)) | exact .next (.next (.next (.next .here))) | exact .next (.next (.next (.next (.next .here)))) | exact .next (.next (.next (.next (.next (.next .here))))) | exact .next (.next (.next (.next (.next (.next (.next .here)))))) | exact .in1 | exact .next .in1 | exact .next (.next .in1) | exact .next (.next (.next .in1)) | exact .next (.next (.next (.next .in1))) | exact .in2 | exact .next .in2 | exact .next (.next .in2) | exact .next (.next (.next .in2)) | exact .next (.next (.next (.next .in2))) | exact .app .here | exact .app (.next .here) | exact .app (.next (.next .here)) | exact .app (.next (.next (.next .here))) | exact .app (.next (.next (.next (.next .here)))) | exact .app (.next (.next (.next (.next (.next .here))))) | exact .app (.next (.next (.next (.next (.next (.next .here)))))) | exact .app (.next (.next (.next (.next (.next (.next (.next .here))))))) | exact .app .in1 | exact .app .in2 | exact .app (.next .in1) | exact .next (.app .in1) | exact .next (.next (.app .in1)) | exact .next (.app .here) | exact .next (.next (.app .here)) | exact .next (.next (.next (.app .here))) | exact .next (.next (.next (.next (.app .here))))) rfl Try.underlying27 rfl rfl (by rfl)) (#[true, true, true, true, true, true, true, false, false, false, true, true, true, true, false, false, false, false, false, false, false, false, false, false, false, false, false, false, false, false, false, false]) (by kernel_rfl) ?_
    refine GA.pure (i := 17) (fun _ _ _ _ _ h => h) rfl (by kernel_rfl) trivial rfl rfl (Y.moveP rfl rfl) (#[true, true, true, true, true, true, true, false, false, false, true, true, true, true, false, false, false, true, false, false, false, false, false, false, false, false, false, false, false, false, false, false]) (by kernel_rfl) ?_
    first | refine GA.pure (i := 18) (fun _ _ _ _ _ h => h) rfl (by kernel_rfl) trivial rfl rfl (Y.nilCheckP rfl rfl) (#[true, true, true, true, true, true, true, false, false, false, true, true, true, true, false, false, false, true, true, false, false, false, false, false, false, false, false, false, false, false, false, false]) (by kernel_rfl) ?_ | refine GA.pure (i := 18) (fun _ _ _ _ _ h => h) rfl (by kernel_rfl) trivial rfl rfl (Y.nilCheckF rfl rfl) (#[true, true, true, true, true, true, true, false, false, false, true, true, true, true, false, false, false, true, true, false, false, false, false, false, false, false, false, false, false, false, false, false]) (by kernel_rfl) ?_
    refine GA.pure (i := 19) (fun _ _ _ _ _ h => h) rfl (by kernel_rfl) trivial rfl rfl (Y.fieldAddr rfl Try.underlying30 rfl I28 rfl rfl) (#[true, true, true, true, true, true, true, false, false, false, true, true, true, true, false, false, false, true, true, true, false, false, false, false, false, false, false, false, false, false, false, false]) (by kernel_rfl) ?_
    refine GA.read (i := 20) (fun _ _ _ _ _ h => h) rfl (by kernel_rfl) (by kernel_rfl) trivial rfl rfl (Y.loadAt (by first | exact .here | exact .next .here | exact .next (.next .here) | exact .next (.next (.next .here)) | exact .next (.next (.next (.next .here))) | exact .next (.next (.next (.next (.next .here)))) | exact .next (.next (.next (.next (.next (.next .here))))) | exact .next (.next (.next (.next (.next (.next (.next .here)))))) | exact .in1 | exact .next .in1 | exact .next (.next .in1) | exact .next (.next (.next .in1)) | exact .next (.next (.next (.next .in1))) | exact .in2 | exact .next .in2 | exact .next (.next .in2) | exact .next (.next (.next .in2)) | exact .next (.next (.next (.next .in2))) | exact .app .here | exact .app (.next .here) | exact .app (.next (.next .here)) | exact .app (.next (.next (.next .here))) | exact .app (.next (.next (.next (.next .here)))) | exact .app (.next (.next (.next (.next (.next .here))))) | exact .app (.next (.next (.next (.next (.next (.next .here)))))) | exact .app (.next (.next (.next (.next (.next (.next (.next .here))))))) | exact .app .in1 | exact .app .in2 | exact .app (.next .in1) | exact .next (.app .in1) | exact .next (.next (.app .in1)) | exact .next (.app .here) | exact .next (.next (.app .here)) | exact .next (.next (.next (.app .here))) | exact .next (.next (.next (.next (.app .here))))) rfl Try.underlying28 rfl rfl (by rfl)) (#[true, true, true, true, true, true, true, false, false, false, true, true, true, true, false, false, false, true, true, true, true, false, false, false, false, false, false, false, false, false, false, false]) (by kernel_rfl) ?_
    refine GA.cut 9 (#[true, true, true, true, true, true, true, true, true, true, true, true, true, true, true, true, true, true, true, true, true, true, true, false, false, false, false, false, false, false, false, false]) (fun F L => ∃ (b35 : Nat) (b36 : Nat) (a37 : Option Addr) (c37 : Nat) (s37 : Seg) (b42 : Nat) (b43 : Nat) (a44 : Option Addr) (c44 : Nat) (s44 : Seg) (b49 : Nat) (a50 : Option Addr) (c50 : Nat) (s50 : Seg), OwnS (.slice a37 (i + 1) c37) (i + 1) (ns.map wslot ++ [.slice (some ⟨b35, 0, none⟩) 64 64]) 31 1 s37 ∧ OwnS (.slice a44 (i + 1) c44) (i + 1) (ss.map wslot ++ [.slice (some ⟨b42, 0, none⟩) 64 64]) 31 1 s44 ∧ OwnS (.slice a50 (i + 1) c50) (i + 1) (List.replicate i (.bool false) ++ [.bool false]) 4 1 s50 ∧ F 35 = .slice (some ⟨b35, 0, none⟩) 64 64 ∧ F 36 = .slice (some ⟨b36, 0, none⟩) 1 1 ∧ F 37 = .slice a37 (i + 1) c37 ∧ F 42 = .slice (some ⟨b42, 0, none⟩) 64 64 ∧ F 43 = .slice (some ⟨b43, 0, none⟩) 1 1 ∧ F 44 = .slice a44 (i + 1) c44 ∧ F 49 = .slice (some ⟨b49, 0, none⟩) 1 1 ∧ F 50 = .slice a50 (i + 1) c50 ∧ F 0 = .int .i64 (N : Int) ∧ F 1 = .slice a ops.length cap ∧ F 6 = ptr bd ∧ F 7 = ptr b22 ∧ F 8 = .int .i64 (i : Int) ∧ F 28 = ptr b22 ∧ F 29 = ptr b22 ∧ F 30 = ptr b22 ∧ F 34 = .slice aN i cN ∧ F 41 = .slice aS i cS ∧ F 48 = .slice aL i cL ∧ wSeg b22 (.slice aN i cN) (.slice aS i cS) (.slice aL i cL) 0 (-1) :: s37 :: s44 :: s50 :: pl.map wblk :: devSeg bd b2 (newDv N) :: [(b35, .row (bytesV zero64) 5 64)] :: [(b36, .row [.slice (some ⟨b35, 0, none⟩) 64 64] 31 1)] :: [(b42, .row (bytesV zero64) 5 64)] :: [(b43, .row [.slice (some ⟨b42, 0, none⟩) 64 64] 31 1)] :: [(b49, .row [.bool false] 4 1)] :: [] = L) ?_ ?_
    ·
      rintro F L ⟨b35, b36, a37, c37, s37, b42, b43, a44, c44, s44, b49, a50, c50, s50, hv37, hv44, hv50, hf35, hf36, hf37, hf42, hf43, hf44, hf49, hf50, hf0, hf1, hf6, hf7, hf8, hf28, hf29, hf30, hf34, hf41, hf48, rfl⟩
      refine GA.fix (d := 35) hf35 ?_
      refine GA.fix (d := 36) hf36 ?_
      refine GA.fix (d := 37) hf37 ?_
      refine GA.fix (d := 42) hf42 ?_
      refine GA.fix (d := 43) hf43 ?_
      refine GA.fix (d := 44) hf44 ?_
      refine GA.fix (d := 49) hf49 ?_
      refine GA.fix (d := 50) hf50 ?_
      refine GA.fix (d := 0) hf0 ?_
      refine GA.fix (d := 1) hf1 ?_
      refine GA.fix (d := 6) hf6 ?_
      refine GA.fix (d := 7) hf7 ?_
      refine GA.fix (d := 8) hf8 ?_
      refine GA.fix (d := 28) hf28 ?_
      refine GA.fix (d := 29) hf29 ?_
      refine GA.fix (d := 30) hf30 ?_
      refine GA.fix (d := 34) hf34 ?_
      refine GA.fix (d := 41) hf41 ?_
      refine GA.fix (d := 48) hf48 ?_
      first | refine GA.pure (i := 23) (fun _ _ _ _ _ h => h) rfl (by kernel_rfl) trivial rfl rfl (Y.nilCheckP rfl rfl) (#[true, true, true, true, true, true, true, true, true, true, true, true, true, true, true, true, true, true, true, true, true, true, true, true, false, false, false, false, false, false, false, false]) (by kernel_rfl) ?_ | refine GA.pure (i := 23) (fun _ _ _ _ _ h => h) rfl (by kernel_rfl) trivial rfl rfl (Y.nilCheckF rfl rfl) (#[true, true, true, true, true, true, true, true, true, true, true, true, true, true, true, true, true, true, true, true, true, true, true, true, false, false, false, false, false, false, false, false]) (by kernel_rfl) ?_
      refine GA.pure (i := 24) (fun _ _ _ _ _ h => h) rfl (by kernel_rfl) trivial rfl rfl (Y.fieldAddr rfl Try.underlying30 rfl I27 rfl rfl) (#[true, true, true, true, true, true, true, true, true, true, true, true, true, true, true, true, true, true, true, true, true, true, true, true, true, false, false, false, false, false, false, false]) (by kernel_rfl) ?_
      refine GA.one (i := 25) rfl (by kernel_rfl) (#[true, true, true, true, true, true, true, true, true, true, true, true, true, true, true, true, true, true, true, true, true, true, true, true, true, true, false, false, false, false, false, false]) (by kernel_rfl) ?_
      refine G.store (v := .slice a37 (i + 1) c37) .here rfl trivial rfl I27 rfl rfl rfl (by simp) _ rfl ?_
      refine G.nil ?_
      refine ⟨fun _ h => absurd h (by simp [hit]), ?_⟩
      first | refine GA.pure (i := 26) (fun _ _ _ _ _ h => h) rfl (by kernel_rfl) trivial rfl rfl (Y.nilCheckP rfl rfl) (#[true, true, true, true, true, true, true, true, true, true, true, true, true, true, true, true, true, true, true, true, true, true, true, true, true, true, true, false, false, false, false, false]) (by kernel_rfl) ?_ | refine GA.pure (i := 26) (fun _ _ _ _ _ h => h) rfl (by kernel_rfl) trivial rfl rfl (Y.nilCheckF rfl rfl) (#[true, true, true, true, true, true, true, true, true, true, true, true, true, true, true, true, true, true, true, true, true, true, true, true, true, true, true, false, false, false, false, false]) (by kernel_rfl) ?_
      refine GA.pure (i := 27) (fun _ _ _ _ _ h => h) rfl (by kernel_rfl) trivial rfl rfl (Y.fieldAddr rfl Try.underlying30 rfl I27 rfl rfl) (#[true, true, true, true, true, true, true, true, true, true, true, true, true, true, true, true, true, true, true, true, true, true, true, true, true, true, true, true, false, false, false, false]) (by kernel_rfl) ?_
      refine GA.one (i := 28) rfl (by kernel_rfl) (#[true, true, true, true, true, true, true, true, true, true, true, true, true, true, true, true, true, true, true, true, true, true, true, true, true, true, true, true, true, false, false, false]) (by kernel_rfl) ?_
      refine G.store (v := .slice a44 (i + 1) c44) .here rfl trivial rfl I27 rfl rfl rfl (by simp) _ rfl ?_
      refine G.nil ?_
      refine ⟨fun _ h => absurd h (by simp [hit]), ?_⟩
      first | refine GA.pure (i := 29) (fun _ _ _ _ _ h => h) rfl (by kernel_rfl) trivial rfl rfl (Y.nilCheckP rfl rfl) (#[true, true, true, true, true, true, true, true, true, true, true, true, true, true, true, true, true, true, true, true, true, true, true, true, true, true, true, true, true, true, false, false]) (by kernel_rfl) ?_ | refine GA.pure (i := 29) (fun _ _ _ _ _ h => h) rfl (by kernel_rfl) trivial rfl rfl (Y.nilCheckF rfl rfl) (#[true, true, true, true, true, true, true, true, true, true, true, true, true, true, true, true, true, true, true, true, true, true, true, true, true, true, true, true, true, true, false, false]) (by kernel_rfl) ?_
      refine GA.pure (i := 30) (fun _ _ _ _ _ h => h) rfl (by kernel_rfl) trivial rfl rfl (Y.fieldAddr rfl Try.underlying30 rfl I28 rfl rfl) (#[true, true, true, true, true, true, true, true, true, true, true, true, true, true, true, true, true, true, true, true, true, true, true, true, true, true, true, true, true, true, true, false]) (by kernel_rfl) ?_
      refine GA.one (i := 31) rfl (by kernel_rfl) (#[true, true, true, true, true, true, true, true, true, true, true, true, true, true, true, true, true, true, true, true, true, true, true, true, true, true, true, true, true, true, true, true]) (by kernel_rfl) ?_
      refine G.store (v := .slice a50 (i + 1) c50) .here rfl trivial rfl I28 rfl rfl rfl (by simp) _ rfl ?_
      refine G.nil ?_
      refine ⟨fun _ h => absurd h (by simp [hit]), ?_⟩
      refine GA.done (by kernel_rfl) ?_
      refine C.region ?_
      refine G.less (L' := wSeg b22 (.slice a37 (i + 1) c37) (.slice a44 (i + 1) c44) (.slice a50 (i + 1) c50) 0 (-1) :: s37 :: s44 :: s50 :: ((zb b35 :: zb b42 :: pl).map wblk) :: devSeg bd b2 (newDv N) :: []) (fun _ h => canon h) ?_
      refine G.moveI rfl trivial rfl rfl rfl ?_
      refine G.addN (j := 1) rfl trivial rfl rfl rfl rfl (by omega) ?_
      refine G.assignI rfl trivial rfl rfl rfl ?_
      refine G.nil ?_
      exact ⟨N - (i + 1) + 0, by omega, i + 1, ns ++ [zb b35], ss ++ [zb b42], zb b35 :: zb b42 :: pl, a37, a44, a50, c37, c44, c50, s37, s44, s50, rfl, by omega, by simp [hnl], by simp [hsl], by simpa [wslot, zero64] using hv37, by simpa [wslot, zero64] using hv44, by rw [List.replicate_succ']; exact hv50, fun e he => (by rcases List.mem_append.1 he with h2 | h2; exact List.mem_cons_of_mem _ (List.mem_cons_of_mem _ (hnp e h2)); rw [List.mem_singleton.1 h2]; exact List.mem_cons_self), fun e he => (by rcases List.mem_append.1 he with h2 | h2; exact List.mem_cons_of_mem _ (List.mem_cons_of_mem _ (hsp e h2)); rw [List.mem_singleton.1 h2]; exact List.mem_cons_of_mem _ List.mem_cons_self), fun e he => (by rcases List.mem_cons.1 he with h2 | h2; rw [h2]; rcases List.mem_cons.1 h2 with h3 | h3; rw [h3]; exact hz e h3), rfl, rfl, rfl, rfl, rfl, rfl, rfl⟩
    intro key_7_8_9_14_15_16_21_22
    refine GA.cut 10 (#[true, true, true, true, true, true, true, true, true, true, true, true, true, true, true, true, true, true, true, true, true, true, false, false, false, false, false, false, false, false, false, false]) (fun F L => ∃ (b35 : Nat) (b36 : Nat) (a37 : Option Addr) (c37 : Nat) (s37 : Seg) (b42 : Nat) (b43 : Nat) (a44 : Option Addr) (c44 : Nat) (s44 : Seg) (b49 : Nat), OwnS (.slice a37 (i + 1) c37) (i + 1) (ns.map wslot ++ [.slice (some ⟨b35, 0, none⟩) 64 64]) 31 1 s37 ∧ OwnS (.slice a44 (i + 1) c44) (i + 1) (ss.map wslot ++ [.slice (some ⟨b42, 0, none⟩) 64 64]) 31 1 s44 ∧ F 35 = .slice (some ⟨b35, 0, none⟩) 64 64 ∧ F 36 = .slice (some ⟨b36, 0, none⟩) 1 1 ∧ F 37 = .slice a37 (i + 1) c37 ∧ F 42 = .slice (some ⟨b42, 0, none⟩) 64 64 ∧ F 43 = .slice (some ⟨b43, 0, none⟩) 1 1 ∧ F 44 = .slice a44 (i + 1) c44 ∧ F 49 = .slice (some ⟨b49, 0, none⟩) 1 1 ∧ F 0 = .int .i64 (N : Int) ∧ F 1 = .slice a ops.length cap ∧ F 6 = ptr bd ∧ F 7 = ptr b22 ∧ F 8 = .int .i64 (i : Int) ∧ F 28 = ptr b22 ∧ F 29 = ptr b22 ∧ F 30 = ptr b22 ∧ F 34 = .slice aN i cN ∧ F 41 = .slice aS i cS ∧ F 48 = .slice aL i cL ∧ wSeg b22 (.slice aN i cN) (.slice aS i cS) (.slice aL i cL) 0 (-1) :: s37 :: s44 :: sL :: pl.map wblk :: devSeg bd b2 (newDv N) :: [(b35, .row (bytesV zero64) 5 64)] :: [(b36, .row [.slice (some ⟨b35, 0, none⟩) 64 64] 31 1)] :: [(b42, .row (bytesV zero64) 5 64)] :: [(b43, .row [.slice (some ⟨b42, 0, none⟩) 64 64] 31 1)] :: [(b49, .row [.bool false] 4 1)] :: [] = L) ?_ ?_
    ·
      rintro F L ⟨b35, b36, a37, c37, s37, b42, b43, a44, c44, s44, b49, hv37, hv44, hf35, hf36, hf37, hf42, hf43, hf44, hf49, hf0, hf1, hf6, hf7, hf8, hf28, hf29, hf30, hf34, hf41, hf48, rfl⟩
      refine GA.fix (d := 35) hf35 ?_
      refine GA.fix (d := 36) hf36 ?_
      refine GA.fix (d := 37) hf37 ?_
      refine GA.fix (d := 42) hf42 ?_
      refine GA.fix (d := 43) hf43 ?_
      refine GA.fix (d := 44) hf44 ?_
      refine GA.fix (d := 49) hf49 ?_
      refine GA.fix (d := 0) hf0 ?_
      refine GA.fix (d := 1) hf1 ?_
      refine GA.fix (d := 6) hf6 ?_
      refine GA.fix (d := 7) hf7 ?_
      refine GA.fix (d := 8) hf8 ?_
      refine GA.fix (d := 28) hf28 ?_
      refine GA.fix (d := 29) hf29 ?_
      refine GA.fix (d := 30) hf30 ?_
      refine GA.fix (d := 34) hf34 ?_
      refine GA.fix (d := 41) hf41 ?_
      refine GA.fix (d := 48) hf48 ?_
      refine GA.one (i := 22) rfl (by kernel_rfl) (#[true, true, true, true, true, true, true, true, true, true, true, true, true, true, true, true, true, true, true, true, true, true, true, false, false, false, false, false, false, false, false, false]) (by kernel_rfl) ?_
      refine G.less (L' := sL :: _) (fun _ h => h.of_flat (List.perm_middle (l₁ := [_, _, _]) (a := sL)).flatten) ?_
      refine G.append hoL rfl trivial rfl rfl Try.underlying28 Try.underlying28 I4 rfl (by decide) rfl rfl (by decide) (Rd.row0 (.next (.next (.next (.next (.next (.next (.next (.next (.next (.next .here))))))))))) rfl (by intro v hv; rw [List.mem_singleton.1 hv]; rfl) (by omega) ?_
      intro v50 s50 hv50
      obtain ⟨a50, c50, rfl, _⟩ := hv50.form
      refine G.nil ?_
      refine ⟨fun _ _ h => mem_one (by simp) h, ?_⟩
      refine GA.less (L' := wSeg b22 (.slice aN i cN) (.slice aS i cS) (.slice aL i cL) 0 (-1) :: s37 :: s44 :: s50 :: pl.map wblk :: devSeg bd b2 (newDv N) :: [(b35, .row (bytesV zero64) 5 64)] :: [(b36, .row [.slice (some ⟨b35, 0, none⟩) 64 64] 31 1)] :: [(b42, .row (bytesV zero64) 5 64)] :: [(b43, .row [.slice (some ⟨b42, 0, none⟩) 64 64] 31 1)] :: [(b49, .row [.bool false] 4 1)] :: []) (fun _ h => h.of_flat (List.perm_append_comm_assoc [_] [_, _, _] _).flatten) ?_
      exact key_7_8_9_14_15_16_21_22 _ _ ⟨b35, b36, a37, c37, s37, b42, b43, a44, c44, s44, b49, a50, c50, s50, hv37, hv44, hv50, rfl, rfl, rfl, rfl, rfl, rfl, rfl, rfl, rfl, rfl, rfl, rfl, rfl, rfl, rfl, rfl, rfl, rfl, rfl, rfl⟩
    intro key_7_8_9_14_15_16_21
    refine GA.cut 11 (#[true, true, true, true, true, true, true, true, true, true, true, true, true, true, true, true, true, true, true, true, true, false, false, false, false, false, false, false, false, false, false, false]) (fun F L => ∃ (b35 : Nat) (b36 : Nat) (a37 : Option Addr) (c37 : Nat) (s37 : Seg) (b42 : Nat) (b43 : Nat) (a44 : Option Addr) (c44 : Nat) (s44 : Seg), OwnS (.slice a37 (i + 1) c37) (i + 1) (ns.map wslot ++ [.slice (some ⟨b35, 0, none⟩) 64 64]) 31 1 s37 ∧ OwnS (.slice a44 (i + 1) c44) (i + 1) (ss.map wslot ++ [.slice (some ⟨b42, 0, none⟩) 64 64]) 31 1 s44 ∧ F 35 = .slice (some ⟨b35, 0, none⟩) 64 64 ∧ F 36 = .slice (some ⟨b36, 0, none⟩) 1 1 ∧ F 37 = .slice a37 (i + 1) c37 ∧ F 42 = .slice (some ⟨b42, 0, none⟩) 64 64 ∧ F 43 = .slice (some ⟨b43, 0, none⟩) 1 1 ∧ F 44 = .slice a44 (i + 1) c44 ∧ F 0 = .int .i64 (N : Int) ∧ F 1 = .slice a ops.length cap ∧ F 6 = ptr bd ∧ F 7 = ptr b22 ∧ F 8 = .int .i64 (i : Int) ∧ F 28 = ptr b22 ∧ F 29 = ptr b22 ∧ F 30 = ptr b22 ∧ F 34 = .slice aN i cN ∧ F 41 = .slice aS i cS ∧ F 48 = .slice aL i cL ∧ wSeg b22 (.slice aN i cN) (.slice aS i cS) (.slice aL i cL) 0 (-1) :: s37 :: s44 :: sL :: pl.map wblk :: devSeg bd b2 (newDv N) :: [(b35, .row (bytesV zero64) 5 64)] :: [(b36, .row [.slice (some ⟨b35, 0, none⟩) 64 64] 31 1)] :: [(b42, .row (bytesV zero64) 5 64)] :: [(b43, .row [.slice (some ⟨b42, 0, none⟩) 64 64] 31 1)] :: [] = L) ?_ ?_
    ·
      rintro F L ⟨b35, b36, a37, c37, s37, b42, b43, a44, c44, s44, hv37, hv44, hf35, hf36, hf37, hf42, hf43, hf44, hf0, hf1, hf6, hf7, hf8, hf28, hf29, hf30, hf34, hf41, hf48, rfl⟩
      refine GA.fix (d := 35) hf35 ?_
      refine GA.fix (d := 36) hf36 ?_
      refine GA.fix (d := 37) hf37 ?_
      refine GA.fix (d := 42) hf42 ?_
      refine GA.fix (d := 43) hf43 ?_
      refine GA.fix (d := 44) hf44 ?_
      refine GA.fix (d := 0) hf0 ?_
      refine GA.fix (d := 1) hf1 ?_
      refine GA.fix (d := 6) hf6 ?_
      refine GA.fix (d := 7) hf7 ?_
      refine GA.fix (d := 8) hf8 ?_
      refine GA.fix (d := 28) hf28 ?_
      refine GA.fix (d := 29) hf29 ?_
      refine GA.fix (d := 30) hf30 ?_
      refine GA.fix (d := 34) hf34 ?_
      refine GA.fix (d := 41) hf41 ?_
      refine GA.fix (d := 48) hf48 ?_
      refine GA.one (i := 21) rfl (by kernel_rfl) (#[true, true, true, true, true, true, true, true, true, true, true, true, true, true, true, true, true, true, true, true, true, true, false, false, false, false, false, false, false, false, false, false]) (by kernel_rfl) ?_
      refine G.buildSliceL (cs := [.bool false]) (zs := [(.bool false)]) rfl trivial rfl rfl Try.underlying28 I4 rfl (by kernel_rfl) rfl rfl ?_
      intro b49
      refine G.nil ?_
      refine ⟨fun _ _ h => mem_one (by simp) h, ?_⟩
      refine GA.less (L' := wSeg b22 (.slice aN i cN) (.slice aS i cS) (.slice aL i cL) 0 (-1) :: s37 :: s44 :: sL :: pl.map wblk :: devSeg bd b2 (newDv N) :: [(b35, .row (bytesV zero64) 5 64)] :: [(b36, .row [.slice (some ⟨b35, 0, none⟩) 64 64] 31 1)] :: [(b42, .row (bytesV zero64) 5 64)] :: [(b43, .row [.slice (some ⟨b42, 0, none⟩) 64 64] 31 1)] :: [(b49, .row [.bool false] 4 1)] :: []) (fun _ h => h.of_flat (List.perm_append_comm_assoc [_] [_, _, _, _, _, _, _, _, _, _] _).flatten) ?_
      exact key_7_8_9_14_15_16_21 _ _ ⟨b35, b36, a37, c37, s37, b42, b43, a44, c44, s44, b49, hv37, hv44, rfl, rfl, rfl, rfl, rfl, rfl, rfl, rfl, rfl, rfl, rfl, rfl, rfl, rfl, rfl, rfl, rfl, rfl, rfl⟩
    intro key_7_8_9_14_15_16
    refine GA.cut 11 (#[true, true, true, true, true, true, true, true, true, true, true, true, true, true, true, true, false, true, true, true, true, true, false, false, false, false, false, false, false, false, false, false]) (fun F L => ∃ (b35 : Nat) (b36 : Nat) (a37 : Option Addr) (c37 : Nat) (s37 : Seg) (b42 : Nat) (b43 : Nat) (b49 : Nat), OwnS (.slice a37 (i + 1) c37) (i + 1) (ns.map wslot ++ [.slice (some ⟨b35, 0, none⟩) 64 64]) 31 1 s37 ∧ F 35 = .slice (some ⟨b35, 0, none⟩) 64 64 ∧ F 36 = .slice (some ⟨b36, 0, none⟩) 1 1 ∧ F 37 = .slice a37 (i + 1) c37 ∧ F 42 = .slice (some ⟨b42, 0, none⟩) 64 64 ∧ F 43 = .slice (some ⟨b43, 0, none⟩) 1 1 ∧ F 49 = .slice (some ⟨b49, 0, none⟩) 1 1 ∧ F 0 = .int .i64 (N : Int) ∧ F 1 = .slice a ops.length cap ∧ F 6 = ptr bd ∧ F 7 = ptr b22 ∧ F 8 = .int .i64 (i : Int) ∧ F 28 = ptr b22 ∧ F 29 = ptr b22 ∧ F 30 = ptr b22 ∧ F 34 = .slice aN i cN ∧ F 41 = .slice aS i cS ∧ F 48 = .slice aL i cL ∧ wSeg b22 (.slice aN i cN) (.slice aS i cS) (.slice aL i cL) 0 (-1) :: s37 :: sS :: sL :: pl.map wblk :: devSeg bd b2 (newDv N) :: [(b35, .row (bytesV zero64) 5 64)] :: [(b36, .row [.slice (some ⟨b35, 0, none⟩) 64 64] 31 1)] :: [(b42, .row (bytesV zero64) 5 64)] :: [(b43, .row [.slice (some ⟨b42, 0, none⟩) 64 64] 31 1)] :: [(b49, .row [.bool false] 4 1)] :: [] = L) ?_ ?_
    ·
      rintro F L ⟨b35, b36, a37, c37, s37, b42, b43, b49, hv37, hf35, hf36, hf37, hf42, hf43, hf49, hf0, hf1, hf6, hf7, hf8, hf28, hf29, hf30, hf34, hf41, hf48, rfl⟩
      refine GA.fix (d := 35) hf35 ?_
      refine GA.fix (d := 36) hf36 ?_
      refine GA.fix (d := 37) hf37 ?_
      refine GA.fix (d := 42) hf42 ?_
      refine GA.fix (d := 43) hf43 ?_
      refine GA.fix (d := 49) hf49 ?_
      refine GA.fix (d := 0) hf0 ?_
      refine GA.fix (d := 1) hf1 ?_
      refine GA.fix (d := 6) hf6 ?_
      refine GA.fix (d := 7) hf7 ?_
      refine GA.fix (d := 8) hf8 ?_
      refine GA.fix (d := 28) hf28 ?_
      refine GA.fix (d := 29) hf29 ?_
      refine GA.fix (d := 30) hf30 ?_
      refine GA.fix (d := 34) hf34 ?_
      refine GA.fix (d := 41) hf41 ?_
      refine GA.fix (d := 48) hf48 ?_
      refine GA.one (i := 16) rfl (by kernel_rfl) (#[true, true, true, true, true, true, true, true, true, true, true, true, true, true, true, true, true, true, true, true, true, true, false, false, false, false, false, false, false, false, false, false]) (by kernel_rfl) ?_
      refine G.less (L' := sS :: _) (fun _ h => h.of_flat (List.perm_middle (l₁ := [_, _]) (a := sS)).flatten) ?_
      refine G.append hoS rfl trivial rfl rfl Try.underlying27 Try.underlying27 I31 rfl (by decide) rfl rfl (by decide) (Rd.row0 (.next (.next (.next (.next (.next (.next (.next (.next (.next .here)))))))))) rfl (by intro v hv; rw [List.mem_singleton.1 hv]; rfl) (by omega) ?_
      intro v44 s44 hv44
      obtain ⟨a44, c44, rfl, _⟩ := hv44.form
      refine G.nil ?_
      refine ⟨fun _ _ h => mem_one (by simp) h, ?_⟩
      refine GA.less (L' := wSeg b22 (.slice aN i cN) (.slice aS i cS) (.slice aL i cL) 0 (-1) :: s37 :: s44 :: sL :: pl.map wblk :: devSeg bd b2 (newDv N) :: [(b35, .row (bytesV zero64) 5 64)] :: [(b36, .row [.slice (some ⟨b35, 0, none⟩) 64 64] 31 1)] :: [(b42, .row (bytesV zero64) 5 64)] :: [(b43, .row [.slice (some ⟨b42, 0, none⟩) 64 64] 31 1)] :: [(b49, .row [.bool false] 4 1)] :: []) (fun _ h => h.of_flat (List.perm_append_comm_assoc [_] [_, _] _).flatten) ?_
      exact key_7_8_9_14_15_16_21 _ _ ⟨b35, b36, a37, c37, s37, b42, b43, a44, c44, s44, b49, hv37, hv44, rfl, rfl, rfl, rfl, rfl, rfl, rfl, rfl, rfl, rfl, rfl, rfl, rfl, rfl, rfl, rfl, rfl, rfl, rfl⟩
    intro key_7_8_9_14_15_21
    refine GA.cut 12 (#[true, true, true, true, true, true, true, true, true, true, true, true, true, true, true, true, false, true, true, true, true, false, false, false, false, false, false, false, false, false, false, false]) (fun F L => ∃ (b35 : Nat) (b36 : Nat) (a37 : Option Addr) (c37 : Nat) (s37 : Seg) (b42 : Nat) (b43 : Nat), OwnS (.slice a37 (i + 1) c37) (i + 1) (ns.map wslot ++ [.slice (some ⟨b35, 0, none⟩) 64 64]) 31 1 s37 ∧ F 35 = .slice (some ⟨b35, 0, none⟩) 64 64 ∧ F 36 = .slice (some ⟨b36, 0, none⟩) 1 1 ∧ F 37 = .slice a37 (i + 1) c37 ∧ F 42 = .slice (some ⟨b42, 0, none⟩) 64 64 ∧ F 43 = .slice (some ⟨b43, 0, none⟩) 1 1 ∧ F 0 = .int .i64 (N : Int) ∧ F 1 = .slice a ops.length cap ∧ F 6 = ptr bd ∧ F 7 = ptr b22 ∧ F 8 = .int .i64 (i : Int) ∧ F 28 = ptr b22 ∧ F 29 = ptr b22 ∧ F 30 = ptr b22 ∧ F 34 = .slice aN i cN ∧ F 41 = .slice aS i cS ∧ F 48 = .slice aL i cL ∧ wSeg b22 (.slice aN i cN) (.slice aS i cS) (.slice aL i cL) 0 (-1) :: s37 :: sS :: sL :: pl.map wblk :: devSeg bd b2 (newDv N) :: [(b35, .row (bytesV zero64) 5 64)] :: [(b36, .row [.slice (some ⟨b35, 0, none⟩) 64 64] 31 1)] :: [(b42, .row (bytesV zero64) 5 64)] :: [(b43, .row [.slice (some ⟨b42, 0, none⟩) 64 64] 31 1)] :: [] = L) ?_ ?_
    ·
      rintro F L ⟨b35, b36, a37, c37, s37, b42, b43, hv37, hf35, hf36, hf37, hf42, hf43, hf0, hf1, hf6, hf7, hf8, hf28, hf29, hf30, hf34, hf41, hf48, rfl⟩
      refine GA.fix (d := 35) hf35 ?_
      refine GA.fix (d := 36) hf36 ?_
      refine GA.fix (d := 37) hf37 ?_
      refine GA.fix (d := 42) hf42 ?_
      refine GA.fix (d := 43) hf43 ?_
      refine GA.fix (d := 0) hf0 ?_
      refine GA.fix (d := 1) hf1 ?_
      refine GA.fix (d := 6) hf6 ?_
      refine GA.fix (d := 7) hf7 ?_
      refine GA.fix (d := 8) hf8 ?_
      refine GA.fix (d := 28) hf28 ?_
      refine GA.fix (d := 29) hf29 ?_
      refine GA.fix (d := 30) hf30 ?_
      refine GA.fix (d := 34) hf34 ?_
      refine GA.fix (d := 41) hf41 ?_
      refine GA.fix (d := 48) hf48 ?_
      refine GA.two (i := 16) (j := 21) (by kernel_rfl) rfl rfl (#[true, true, true, true, true, true, true, true, true, true, true, true, true, true, true, true, true, true, true, true, true, false, false, false, false, false, false, false, false, false, false, false]) (#[true, true, true, true, true, true, true, true, true, true, true, true, true, true, true, true, false, true, true, true, true, true, false, false, false, false, false, false, false, false, false, false]) (by kernel_rfl) (by kernel_rfl) ?_ ?_
      ·
        refine G.less (L' := sS :: _) (fun _ h => h.of_flat (List.perm_middle (l₁ := [_, _]) (a := sS)).flatten) ?_
        refine G.append hoS rfl trivial rfl rfl Try.underlying27 Try.underlying27 I31 rfl (by decide) rfl rfl (by decide) (Rd.row0 (.next (.next (.next (.next (.next (.next (.next (.next (.next .here)))))))))) rfl (by intro v hv; rw [List.mem_singleton.1 hv]; rfl) (by omega) ?_
        intro v44 s44 hv44
        obtain ⟨a44, c44, rfl, _⟩ := hv44.form
        refine G.nil ?_
        refine ⟨fun _ _ h => mem_one (by simp) h, ?_⟩
        refine GA.less (L' := wSeg b22 (.slice aN i cN) (.slice aS i cS) (.slice aL i cL) 0 (-1) :: s37 :: s44 :: sL :: pl.map wblk :: devSeg bd b2 (newDv N) :: [(b35, .row (bytesV zero64) 5 64)] :: [(b36, .row [.slice (some ⟨b35, 0, none⟩) 64 64] 31 1)] :: [(b42, .row (bytesV zero64) 5 64)] :: [(b43, .row [.slice (some ⟨b42, 0, none⟩) 64 64] 31 1)] :: []) (fun _ h => h.of_flat (List.perm_append_comm_assoc [_] [_, _] _).flatten) ?_
        exact key_7_8_9_14_15_16 _ _ ⟨b35, b36, a37, c37, s37, b42, b43, a44, c44, s44, hv37, hv44, rfl, rfl, rfl, rfl, rfl, rfl, rfl, rfl, rfl, rfl, rfl, rfl, rfl, rfl, rfl, rfl, rfl, rfl⟩
      ·
        refine G.buildSliceL (cs := [.bool false]) (zs := [(.bool false)]) rfl trivial rfl rfl Try.underlying28 I4 rfl (by kernel_rfl) rfl rfl ?_
        intro b49
        refine G.nil ?_
        refine ⟨fun _ _ h => mem_one (by simp) h, ?_⟩
        refine GA.less (L' := wSeg b22 (.slice aN i cN) (.slice aS i cS) (.slice aL i cL) 0 (-1) :: s37 :: sS :: sL :: pl.map wblk :: devSeg bd b2 (newDv N) :: [(b35, .row (bytesV zero64) 5 64)] :: [(b36, .row [.slice (some ⟨b35, 0, none⟩) 64 64] 31 1)] :: [(b42, .row (bytesV zero64) 5 64)] :: [(b43, .row [.slice (some ⟨b42, 0, none⟩) 64 64] 31 1)] :: [(b49, .row [.bool false] 4 1)] :: []) (fun _ h => h.of_flat (List.perm_append_comm_assoc [_] [_, _, _, _, _, _, _, _, _, _] _).flatten) ?_
        exact key_7_8_9_14_15_21 _ _ ⟨b35, b36, a37, c37, s37, b42, b43, b49, hv37, rfl, rfl, rfl, rfl, rfl, rfl, rfl, rfl, rfl, rfl, rfl, rfl, rfl, rfl, rfl, rfl, rfl, rfl⟩
    intro key_7_8_9_14_15
    refine GA.cut 12 (#[true, true, true, true, true, true, true, true, true, true, true, true, true, true, true, false, false, true, true, true, true, true, false, false, false, false, false, false, false, false, false, false]) (fun F L => ∃ (b35 : Nat) (b36 : Nat) (a37 : Option Addr) (c37 : Nat) (s37 : Seg) (b42 : Nat) (b49 : Nat), OwnS (.slice a37 (i + 1) c37) (i + 1) (ns.map wslot ++ [.slice (some ⟨b35, 0, none⟩) 64 64]) 31 1 s37 ∧ F 35 = .slice (some ⟨b35, 0, none⟩) 64 64 ∧ F 36 = .slice (some ⟨b36, 0, none⟩) 1 1 ∧ F 37 = .slice a37 (i + 1) c37 ∧ F 42 = .slice (some ⟨b42, 0, none⟩) 64 64 ∧ F 49 = .slice (some ⟨b49, 0, none⟩) 1 1 ∧ F 0 = .int .i64 (N : Int) ∧ F 1 = .slice a ops.length cap ∧ F 6 = ptr bd ∧ F 7 = ptr b22 ∧ F 8 = .int .i64 (i : Int) ∧ F 28 = ptr b22 ∧ F 29 = ptr b22 ∧ F 30 = ptr b22 ∧ F 34 = .slice aN i cN ∧ F 41 = .slice aS i cS ∧ F 48 = .slice aL i cL ∧ wSeg b22 (.slice aN i cN) (.slice aS i cS) (.slice aL i cL) 0 (-1) :: s37 :: sS :: sL :: pl.map wblk :: devSeg bd b2 (newDv N) :: [(b35, .row (bytesV zero64) 5 64)] :: [(b36, .row [.slice (some ⟨b35, 0, none⟩) 64 64] 31 1)] :: [(b42, .row (bytesV zero64) 5 64)] :: [(b49, .row [.bool false] 4 1)] :: [] = L) ?_ ?_
    ·
      rintro F L ⟨b35, b36, a37, c37, s37, b42, b49, hv37, hf35, hf36, hf37, hf42, hf49, hf0, hf1, hf6, hf7, hf8, hf28, hf29, hf30, hf34, hf41, hf48, rfl⟩
      refine GA.fix (d := 35) hf35 ?_
      refine GA.fix (d := 36) hf36 ?_
      refine GA.fix (d := 37) hf37 ?_
      refine GA.fix (d := 42) hf42 ?_
      refine GA.fix (d := 49) hf49 ?_
      refine GA.fix (d := 0) hf0 ?_
      refine GA.fix (d := 1) hf1 ?_
      refine GA.fix (d := 6) hf6 ?_
      refine GA.fix (d := 7) hf7 ?_
      refine GA.fix (d := 8) hf8 ?_
      refine GA.fix (d := 28) hf28 ?_
      refine GA.fix (d := 29) hf29 ?_
      refine GA.fix (d := 30) hf30 ?_
      refine GA.fix (d := 34) hf34 ?_
      refine GA.fix (d := 41) hf41 ?_
      refine GA.fix (d := 48) hf48 ?_
      refine GA.one (i := 15) rfl (by kernel_rfl) (#[true, true, true, true, true, true, true, true, true, true, true, true, true, true, true, true, false, true, true, true, true, true, false, false, false, false, false, false, false, false, false, false]) (by kernel_rfl) ?_
      refine G.buildSliceL (cs := [.slice (some ⟨b42, 0, none⟩) 64 64]) (zs := [(.slice none 0 0)]) rfl trivial rfl rfl Try.underlying27 I31 rfl (by kernel_rfl) rfl rfl ?_
      intro b43
      refine G.nil ?_
      refine ⟨fun _ _ h => mem_one (by simp) h, ?_⟩
      refine GA.less (L' := wSeg b22 (.slice aN i cN) (.slice aS i cS) (.slice aL i cL) 0 (-1) :: s37 :: sS :: sL :: pl.map wblk :: devSeg bd b2 (newDv N) :: [(b35, .row (bytesV zero64) 5 64)] :: [(b36, .row [.slice (some ⟨b35, 0, none⟩) 64 64] 31 1)] :: [(b42, .row (bytesV zero64) 5 64)] :: [(b43, .row [.slice (some ⟨b42, 0, none⟩) 64 64] 31 1)] :: [(b49, .row [.bool false] 4 1)] :: []) (fun _ h => h.of_flat (List.perm_append_comm_assoc [_] [_, _, _, _, _, _, _, _, _] _).flatten) ?_
      exact key_7_8_9_14_15_21 _ _ ⟨b35, b36, a37, c37, s37, b42, b43, b49, hv37, rfl, rfl, rfl, rfl, rfl, rfl, rfl, rfl, rfl, rfl, rfl, rfl, rfl, rfl, rfl, rfl, rfl, rfl⟩
    intro key_7_8_9_14_21
    refine GA.cut 13 (#[true, true, true, true, true, true, true, true, true, true, true, true, true, true, true, false, false, true, true, true, true, false, false, false, false, false, false, false, false, false, false, false]) (fun F L => ∃ (b35 : Nat) (b36 : Nat) (a37 : Option Addr) (c37 : Nat) (s37 : Seg) (b42 : Nat), OwnS (.slice a37 (i + 1) c37) (i + 1) (ns.map wslot ++ [.slice (some ⟨b35, 0, none⟩) 64 64]) 31 1 s37 ∧ F 35 = .slice (some ⟨b35, 0, none⟩) 64 64 ∧ F 36 = .slice (some ⟨b36, 0, none⟩) 1 1 ∧ F 37 = .slice a37 (i + 1) c37 ∧ F 42 = .slice (some ⟨b42, 0, none⟩) 64 64 ∧ F 0 = .int .i64 (N : Int) ∧ F 1 = .slice a ops.length cap ∧ F 6 = ptr bd ∧ F 7 = ptr b22 ∧ F 8 = .int .i64 (i : Int) ∧ F 28 = ptr b22 ∧ F 29 = ptr b22 ∧ F 30 = ptr b22 ∧ F 34 = .slice aN i cN ∧ F 41 = .slice aS i cS ∧ F 48 = .slice aL i cL ∧ wSeg b22 (.slice aN i cN) (.slice aS i cS) (.slice aL i cL) 0 (-1) :: s37 :: sS :: sL :: pl.map wblk :: devSeg bd b2 (newDv N) :: [(b35, .row (bytesV zero64) 5 64)] :: [(b36, .row [.slice (some ⟨b35, 0, none⟩) 64 64] 31 1)] :: [(b42, .row (bytesV zero64) 5 64)] :: [] = L) ?_ ?_
    ·
      rintro F L ⟨b35, b36, a37, c37, s37, b42, hv37, hf35, hf36, hf37, hf42, hf0, hf1, hf6, hf7, hf8, hf28, hf29, hf30, hf34, hf41, hf48, rfl⟩
      refine GA.fix (d := 35) hf35 ?_
      refine GA.fix (d := 36) hf36 ?_
      refine GA.fix (d := 37) hf37 ?_
      refine GA.fix (d := 42) hf42 ?_
      refine GA.fix (d := 0) hf0 ?_
      refine GA.fix (d := 1) hf1 ?_
      refine GA.fix (d := 6) hf6 ?_
      refine GA.fix (d := 7) hf7 ?_
      refine GA.fix (d := 8) hf8 ?_
      refine GA.fix (d := 28) hf28 ?_
      refine GA.fix (d := 29) hf29 ?_
      refine GA.fix (d := 30) hf30 ?_
      refine GA.fix (d := 34) hf34 ?_
      refine GA.fix (d := 41) hf41 ?_
      refine GA.fix (d := 48) hf48 ?_
      refine GA.two (i := 15) (j := 21) (by kernel_rfl) rfl rfl (#[true, true, true, true, true, true, true, true, true, true, true, true, true, true, true, true, false, true, true, true, true, false, false, false, false, false, false, false, false, false, false, false]) (#[true, true, true, true, true, true, true, true, true, true, true, true, true, true, true, false, false, true, true, true, true, true, false, false, false, false, false, false, false, false, false, false]) (by kernel_rfl) (by kernel_rfl) ?_ ?_
      ·
        refine G.buildSliceL (cs := [.slice (some ⟨b42, 0, none⟩) 64 64]) (zs := [(.slice none 0 0)]) rfl trivial rfl rfl Try.underlying27 I31 rfl (by kernel_rfl) rfl rfl ?_
        intro b43
        refine G.nil ?_
        refine ⟨fun _ _ h => mem_one (by simp) h, ?_⟩
        refine GA.less (L' := wSeg b22 (.slice aN i cN) (.slice aS i cS) (.slice aL i cL) 0 (-1) :: s37 :: sS :: sL :: pl.map wblk :: devSeg bd b2 (newDv N) :: [(b35, .row (bytesV zero64) 5 64)] :: [(b36, .row [.slice (some ⟨b35, 0, none⟩) 64 64] 31 1)] :: [(b42, .row (bytesV zero64) 5 64)] :: [(b43, .row [.slice (some ⟨b42, 0, none⟩) 64 64] 31 1)] :: []) (fun _ h => h.of_flat (List.perm_append_comm_assoc [_] [_, _, _, _, _, _, _, _, _] _).flatten) ?_
        exact key_7_8_9_14_15 _ _ ⟨b35, b36, a37, c37, s37, b42, b43, hv37, rfl, rfl, rfl, rfl, rfl, rfl, rfl, rfl, rfl, rfl, rfl, rfl, rfl, rfl, rfl, rfl, rfl⟩
      ·
        refine G.buildSliceL (cs := [.bool false]) (zs := [(.bool false)]) rfl trivial rfl rfl Try.underlying28 I4 rfl (by kernel_rfl) rfl rfl ?_
        intro b49
        refine G.nil ?_
        refine ⟨fun _ _ h => mem_one (by simp) h, ?_⟩
        refine GA.less (L' := wSeg b22 (.slice aN i cN) (.slice aS i cS) (.slice aL i cL) 0 (-1) :: s37 :: sS :: sL :: pl.map wblk :: devSeg bd b2 (newDv N) :: [(b35, .row (bytesV zero64) 5 64)] :: [(b36, .row [.slice (some ⟨b35, 0, none⟩) 64 64] 31 1)] :: [(b42, .row (bytesV zero64) 5 64)] :: [(b49, .row [.bool false] 4 1)] :: []) (fun _ h => h.of_flat (List.perm_append_comm_assoc [_] [_, _, _, _, _, _, _, _, _] _).flatten) ?_
        exact key_7_8_9_14_21 _ _ ⟨b35, b36, a37, c37, s37, b42, b49, hv37, rfl, rfl, rfl, rfl, rfl, rfl, rfl, rfl, rfl, rfl, rfl, rfl, rfl, rfl, rfl, rfl, rfl⟩
    intro key_7_8_9_14
    refine GA.cut 13 (#[true, true, true, true, true, true, true, true, true, true, true, true, true, true, false, false, false, true, true, true, true, true, false, false, false, false, false, false, false, false, false, false]) (fun F L => ∃ (b35 : Nat) (b36 : Nat) (a37 : Option Addr) (c37 : Nat) (s37 : Seg) (b49 : Nat), OwnS (.slice a37 (i + 1) c37) (i + 1) (ns.map wslot ++ [.slice (some ⟨b35, 0, none⟩) 64 64]) 31 1 s37 ∧ F 35 = .slice (some ⟨b35, 0, none⟩) 64 64 ∧ F 36 = .slice (some ⟨b36, 0, none⟩) 1 1 ∧ F 37 = .slice a37 (i + 1) c37 ∧ F 49 = .slice (some ⟨b49, 0, none⟩) 1 1 ∧ F 0 = .int .i64 (N : Int) ∧ F 1 = .slice a ops.length cap ∧ F 6 = ptr bd ∧ F 7 = ptr b22 ∧ F 8 = .int .i64 (i : Int) ∧ F 28 = ptr b22 ∧ F 29 = ptr b22 ∧ F 30 = ptr b22 ∧ F 34 = .slice aN i cN ∧ F 41 = .slice aS i cS ∧ F 48 = .slice aL i cL ∧ wSeg b22 (.slice aN i cN) (.slice aS i cS) (.slice aL i cL) 0 (-1) :: s37 :: sS :: sL :: pl.map wblk :: devSeg bd b2 (newDv N) :: [(b35, .row (bytesV zero64) 5 64)] :: [(b36, .row [.slice (some ⟨b35, 0, none⟩) 64 64] 31 1)] :: [(b49, .row [.bool false] 4 1)] :: [] = L) ?_ ?_
    ·
      rintro F L ⟨b35, b36, a37, c37, s37, b49, hv37, hf35, hf36, hf37, hf49, hf0, hf1, hf6, hf7, hf8, hf28, hf29, hf30, hf34, hf41, hf48, rfl⟩
      refine GA.fix (d := 35) hf35 ?_
      refine GA.fix (d := 36) hf36 ?_
      refine GA.fix (d := 37) hf37 ?_
      refine GA.fix (d := 49) hf49 ?_
      refine GA.fix (d := 0) hf0 ?_
      refine GA.fix (d := 1) hf1 ?_
      refine GA.fix (d := 6) hf6 ?_
      refine GA.fix (d := 7) hf7 ?_
      refine GA.fix (d := 8) hf8 ?_
      refine GA.fix (d := 28) hf28 ?_
      refine GA.fix (d := 29) hf29 ?_
      refine GA.fix (d := 30) hf30 ?_
      refine GA.fix (d := 34) hf34 ?_
      refine GA.fix (d := 41) hf41 ?_
      refine GA.fix (d := 48) hf48 ?_
      refine GA.one (i := 14) rfl (by kernel_rfl) (#[true, true, true, true, true, true, true, true, true, true, true, true, true, true, true, false, false, true, true, true, true, true, false, false, false, false, false, false, false, false, false, false]) (by kernel_rfl) ?_
      refine G.makeBytes (l := 64) (c := 64) rfl trivial rfl rfl Try.underlying31 I5 rfl rfl (by decide) ?_
      intro b42
      refine G.nil ?_
      refine ⟨fun _ _ h => mem_one (by simp) h, ?_⟩
      refine GA.less (L' := wSeg b22 (.slice aN i cN) (.slice aS i cS) (.slice aL i cL) 0 (-1) :: s37 :: sS :: sL :: pl.map wblk :: devSeg bd b2 (newDv N) :: [(b35, .row (bytesV zero64) 5 64)] :: [(b36, .row [.slice (some ⟨b35, 0, none⟩) 64 64] 31 1)] :: [(b42, .row (bytesV zero64) 5 64)] :: [(b49, .row [.bool false] 4 1)] :: []) (fun _ h => h.of_flat (List.perm_append_comm_assoc [_] [_, _, _, _, _, _, _, _] _).flatten) ?_
      exact key_7_8_9_14_21 _ _ ⟨b35, b36, a37, c37, s37, b42, b49, hv37, rfl, rfl, rfl, rfl, rfl, rfl, rfl, rfl, rfl, rfl, rfl, rfl, rfl, rfl, rfl, rfl, rfl⟩
    intro key_7_8_9_21
    refine GA.cut 14 (#[true, true, true, true, true, true, true, true, true, true, true, true, true, true, false, false, false, true, true, true, true, false, false, false, false, false, false, false, false, false, false, false]) (fun F L => ∃ (b35 : Nat) (b36 : Nat) (a37 : Option Addr) (c37 : Nat) (s37 : Seg), OwnS (.slice a37 (i + 1) c37) (i + 1) (ns.map wslot ++ [.slice (some ⟨b35, 0, none⟩) 64 64]) 31 1 s37 ∧ F 35 = .slice (some ⟨b35, 0, none⟩) 64 64 ∧ F 36 = .slice (some ⟨b36, 0, none⟩) 1 1 ∧ F 37 = .slice a37 (i + 1) c37 ∧ F 0 = .int .i64 (N : Int) ∧ F 1 = .slice a ops.length cap ∧ F 6 = ptr bd ∧ F 7 = ptr b22 ∧ F 8 = .int .i64 (i : Int) ∧ F 28 = ptr b22 ∧ F 29 = ptr b22 ∧ F 30 = ptr b22 ∧ F 34 = .slice aN i cN ∧ F 41 = .slice aS i cS ∧ F 48 = .slice aL i cL ∧ wSeg b22 (.slice aN i cN) (.slice aS i cS) (.slice aL i cL) 0 (-1) :: s37 :: sS :: sL :: pl.map wblk :: devSeg bd b2 (newDv N) :: [(b35, .row (bytesV zero64) 5 64)] :: [(b36, .row [.slice (some ⟨b35, 0, none⟩) 64 64] 31 1)] :: [] = L) ?_ ?_
    ·
      rintro F L ⟨b35, b36, a37, c37, s37, hv37, hf35, hf36, hf37, hf0, hf1, hf6, hf7, hf8, hf28, hf29, hf30, hf34, hf41, hf48, rfl⟩
      refine GA.fix (d := 35) hf35 ?_
      refine GA.fix (d := 36) hf36 ?_
      refine GA.fix (d := 37) hf37 ?_
      refine GA.fix (d := 0) hf0 ?_
      refine GA.fix (d := 1) hf1 ?_
      refine GA.fix (d := 6) hf6 ?_
      refine GA.fix (d := 7) hf7 ?_
      refine GA.fix (d := 8) hf8 ?_
      refine GA.fix (d := 28) hf28 ?_
      refine GA.fix (d := 29) hf29 ?_
      refine GA.fix (d := 30) hf30 ?_
      refine GA.fix (d := 34) hf34 ?_
      refine GA.fix (d := 41) hf41 ?_
      refine GA.fix (d := 48) hf48 ?_
      refine GA.two (i := 14) (j := 21) (by kernel_rfl) rfl rfl (#[true, true, true, true, true, true, true, true, true, true, true, true, true, true, true, false, false, true, true, true, true, false, false, false, false, false, false, false, false, false, false, false]) (#[true, true, true, true, true, true, true, true, true, true, true, true, true, true, false, false, false, true, true, true, true, true, false, false, false, false, false, false, false, false, false, false]) (by kernel_rfl) (by kernel_rfl) ?_ ?_
      ·
        refine G.makeBytes (l := 64) (c := 64) rfl trivial rfl rfl Try.underlying31 I5 rfl rfl (by decide) ?_
        intro b42
        refine G.nil ?_
        refine ⟨fun _ _ h => mem_one (by simp) h, ?_⟩
        refine GA.less (L' := wSeg b22 (.slice aN i cN) (.slice aS i cS) (.slice aL i cL) 0 (-1) :: s37 :: sS :: sL :: pl.map wblk :: devSeg bd b2 (newDv N) :: [(b35, .row (bytesV zero64) 5 64)] :: [(b36, .row [.slice (some ⟨b35, 0, none⟩) 64 64] 31 1)] :: [(b42, .row (bytesV zero64) 5 64)] :: []) (fun _ h => h.of_flat (List.perm_append_comm_assoc [_] [_, _, _, _, _, _, _, _] _).flatten) ?_
        exact key_7_8_9_14 _ _ ⟨b35, b36, a37, c37, s37, b42, hv37, rfl, rfl, rfl, rfl, rfl, rfl, rfl, rfl, rfl, rfl, rfl, rfl, rfl, rfl, rfl, rfl⟩
      ·
        refine G.buildSliceL (cs := [.bool false]) (zs := [(.bool false)]) rfl trivial rfl rfl Try.underlying28 I4 rfl (by kernel_rfl) rfl rfl ?_
        intro b49
        refine G.nil ?_
        refine ⟨fun _ _ h => mem_one (by simp) h, ?_⟩
        refine GA.less (L' := wSeg b22 (.slice aN i cN) (.slice aS i cS) (.slice aL i cL) 0 (-1) :: s37 :: sS :: sL :: pl.map wblk :: devSeg bd b2 (newDv N) :: [(b35, .row (bytesV zero64) 5 64)] :: [(b36, .row [.slice (some ⟨b35, 0, none⟩) 64 64] 31 1)] :: [(b49, .row [.bool false] 4 1)] :: []) (fun _ h => h.of_flat (List.perm_append_comm_assoc [_] [_, _, _, _, _, _, _, _] _).flatten) ?_
        exact key_7_8_9_21 _ _ ⟨b35, b36, a37, c37, s37, b49, hv37, rfl, rfl, rfl, rfl, rfl, rfl, rfl, rfl, rfl, rfl, rfl, rfl, rfl, rfl, rfl, rfl⟩
    intro key_7_8_9
    refine GA.cut 12 (#[true, true, true, true, true, true, true, true, true, false, true, true, true, true, true, true, false, true, true, true, true, true, false, false, false, false, false, false, false, false, false, false]) (fun F L => ∃ (b35 : Nat) (b36 : Nat) (b42 : Nat) (b43 : Nat) (b49 : Nat), F 35 = .slice (some ⟨b35, 0, none⟩) 64 64 ∧ F 36 = .slice (some ⟨b36, 0, none⟩) 1 1 ∧ F 42 = .slice (some ⟨b42, 0, none⟩) 64 64 ∧ F 43 = .slice (some ⟨b43, 0, none⟩) 1 1 ∧ F 49 = .slice (some ⟨b49, 0, none⟩) 1 1 ∧ F 0 = .int .i64 (N : Int) ∧ F 1 = .slice a ops.length cap ∧ F 6 = ptr bd ∧ F 7 = ptr b22 ∧ F 8 = .int .i64 (i : Int) ∧ F 28 = ptr b22 ∧ F 29 = ptr b22 ∧ F 30 = ptr b22 ∧ F 34 = .slice aN i cN ∧ F 41 = .slice aS i cS ∧ F 48 = .slice aL i cL ∧ wSeg b22 (.slice aN i cN) (.slice aS i cS) (.slice aL i cL) 0 (-1) :: sN :: sS :: sL :: pl.map wblk :: devSeg bd b2 (newDv N) :: [(b35, .row (bytesV zero64) 5 64)] :: [(b36, .row [.slice (some ⟨b35, 0, none⟩) 64 64] 31 1)] :: [(b42, .row (bytesV zero64) 5 64)] :: [(b43, .row [.slice (some ⟨b42, 0, none⟩) 64 64] 31 1)] :: [(b49, .row [.bool false] 4 1)] :: [] = L) ?_ ?_
    ·
      rintro F L ⟨b35, b36, b42, b43, b49, hf35, hf36, hf42, hf43, hf49, hf0, hf1, hf6, hf7, hf8, hf28, hf29, hf30, hf34, hf41, hf48, rfl⟩
      refine GA.fix (d := 35) hf35 ?_
      refine GA.fix (d := 36) hf36 ?_
      refine GA.fix (d := 42) hf42 ?_
      refine GA.fix (d := 43) hf43 ?_
      refine GA.fix (d := 49) hf49 ?_
      refine GA.fix (d := 0) hf0 ?_
      refine GA.fix (d := 1) hf1 ?_
      refine GA.fix (d := 6) hf6 ?_
      refine GA.fix (d := 7) hf7 ?_
      refine GA.fix (d := 8) hf8 ?_
      refine GA.fix (d := 28) hf28 ?_
      refine GA.fix (d := 29) hf29 ?_
      refine GA.fix (d := 30) hf30 ?_
      refine GA.fix (d := 34) hf34 ?_
      refine GA.fix (d := 41) hf41 ?_
      refine GA.fix (d := 48) hf48 ?_
      refine GA.one (i := 9) rfl (by kernel_rfl) (#[true, true, true, true, true, true, true, true, true, true, true, true, true, true, true, true, false, true, true, true, true, true, false, false, false, false, false, false, false, false, false, false]) (by kernel_rfl) ?_
      refine G.less (L' := sN :: _) (fun _ h => h.of_flat (List.perm_middle (l₁ := [_]) (a := sN)).flatten) ?_
      refine G.append hoN rfl trivial rfl rfl Try.underlying27 Try.underlying27 I31 rfl (by decide) rfl rfl (by decide) (Rd.row0 (.next (.next (.next (.next (.next (.next (.next .here)))))))) rfl (by intro v hv; rw [List.mem_singleton.1 hv]; rfl) (by omega) ?_
      intro v37 s37 hv37
      obtain ⟨a37, c37, rfl, _⟩ := hv37.form
      refine G.nil ?_
      refine ⟨fun _ _ h => mem_one (by simp) h, ?_⟩
      refine GA.less (L' := wSeg b22 (.slice aN i cN) (.slice aS i cS) (.slice aL i cL) 0 (-1) :: s37 :: sS :: sL :: pl.map wblk :: devSeg bd b2 (newDv N) :: [(b35, .row (bytesV zero64) 5 64)] :: [(b36, .row [.slice (some ⟨b35, 0, none⟩) 64 64] 31 1)] :: [(b42, .row (bytesV zero64) 5 64)] :: [(b43, .row [.slice (some ⟨b42, 0, none⟩) 64 64] 31 1)] :: [(b49, .row [.bool false] 4 1)] :: []) (fun _ h => h.of_flat (List.perm_append_comm_assoc [_] [_] _).flatten) ?_
      exact key_7_8_9_14_15_21 _ _ ⟨b35, b36, a37, c37, s37, b42, b43, b49, hv37, rfl, rfl, rfl, rfl, rfl, rfl, rfl, rfl, rfl, rfl, rfl, rfl, rfl, rfl, rfl, rfl, rfl, rfl⟩
    intro key_7_8_14_15_21
    refine GA.cut 13 (#[true, true, true, true, true, true, true, true, true, false, true, true, true, true, true, true, false, true, true, true, true, false, false, false, false, false, false, false, false, false, false, false]) (fun F L => ∃ (b35 : Nat) (b36 : Nat) (b42 : Nat) (b43 : Nat), F 35 = .slice (some ⟨b35, 0, none⟩) 64 64 ∧ F 36 = .slice (some ⟨b36, 0, none⟩) 1 1 ∧ F 42 = .slice (some ⟨b42, 0, none⟩) 64 64 ∧ F 43 = .slice (some ⟨b43, 0, none⟩) 1 1 ∧ F 0 = .int .i64 (N : Int) ∧ F 1 = .slice a ops.length cap ∧ F 6 = ptr bd ∧ F 7 = ptr b22 ∧ F 8 = .int .i64 (i : Int) ∧ F 28 = ptr b22 ∧ F 29 = ptr b22 ∧ F 30 = ptr b22 ∧ F 34 = .slice aN i cN ∧ F 41 = .slice aS i cS ∧ F 48 = .slice aL i cL ∧ wSeg b22 (.slice aN i cN) (.slice aS i cS) (.slice aL i cL) 0 (-1) :: sN :: sS :: sL :: pl.map wblk :: devSeg bd b2 (newDv N) :: [(b35, .row (bytesV zero64) 5 64)] :: [(b36, .row [.slice (some ⟨b35, 0, none⟩) 64 64] 31 1)] :: [(b42, .row (bytesV zero64) 5 64)] :: [(b43, .row [.slice (some ⟨b42, 0, none⟩) 64 64] 31 1)] :: [] = L) ?_ ?_
    ·
      rintro F L ⟨b35, b36, b42, b43, hf35, hf36, hf42, hf43, hf0, hf1, hf6, hf7, hf8, hf28, hf29, hf30, hf34, hf41, hf48, rfl⟩
      refine GA.fix (d := 35) hf35 ?_
      refine GA.fix (d := 36) hf36 ?_
      refine GA.fix (d := 42) hf42 ?_
      refine GA.fix (d := 43) hf43 ?_
      refine GA.fix (d := 0) hf0 ?_
      refine GA.fix (d := 1) hf1 ?_
      refine GA.fix (d := 6) hf6 ?_
      refine GA.fix (d := 7) hf7 ?_
      refine GA.fix (d := 8) hf8 ?_
      refine GA.fix (d := 28) hf28 ?_
      refine GA.fix (d := 29) hf29 ?_
      refine GA.fix (d := 30) hf30 ?_
      refine GA.fix (d := 34) hf34 ?_
      refine GA.fix (d := 41) hf41 ?_
      refine GA.fix (d := 48) hf48 ?_
      refine GA.two (i := 9) (j := 21) (by kernel_rfl) rfl rfl (#[true, true, true, true, true, true, true, true, true, true, true, true, true, true, true, true, false, true, true, true, true, false, false, false, false, false, false, false, false, false, false, false]) (#[true, true, true, true, true, true, true, true, true, false, true, true, true, true, true, true, false, true, true, true, true, true, false, false, false, false, false, false, false, false, false, false]) (by kernel_rfl) (by kernel_rfl) ?_ ?_
      ·
        refine G.less (L' := sN :: _) (fun _ h => h.of_flat (List.perm_middle (l₁ := [_]) (a := sN)).flatten) ?_
        refine G.append hoN rfl trivial rfl rfl Try.underlying27 Try.underlying27 I31 rfl (by decide) rfl rfl (by decide) (Rd.row0 (.next (.next (.next (.next (.next (.next (.next .here)))))))) rfl (by intro v hv; rw [List.mem_singleton.1 hv]; rfl) (by omega) ?_
        intro v37 s37 hv37
        obtain ⟨a37, c37, rfl, _⟩ := hv37.form
        refine G.nil ?_
        refine ⟨fun _ _ h => mem_one (by simp) h, ?_⟩
        refine GA.less (L' := wSeg b22 (.slice aN i cN) (.slice aS i cS) (.slice aL i cL) 0 (-1) :: s37 :: sS :: sL :: pl.map wblk :: devSeg bd b2 (newDv N) :: [(b35, .row (bytesV zero64) 5 64)] :: [(b36, .row [.slice (some ⟨b35, 0, none⟩) 64 64] 31 1)] :: [(b42, .row (bytesV zero64) 5 64)] :: [(b43, .row [.slice (some ⟨b42, 0, none⟩) 64 64] 31 1)] :: []) (fun _ h => h.of_flat (List.perm_append_comm_assoc [_] [_] _).flatten) ?_
        exact key_7_8_9_14_15 _ _ ⟨b35, b36, a37, c37, s37, b42, b43, hv37, rfl, rfl, rfl, rfl, rfl, rfl, rfl, rfl, rfl, rfl, rfl, rfl, rfl, rfl, rfl, rfl, rfl⟩
      ·
        refine G.buildSliceL (cs := [.bool false]) (zs := [(.bool false)]) rfl trivial rfl rfl Try.underlying28 I4 rfl (by kernel_rfl) rfl rfl ?_
        intro b49
        refine G.nil ?_
        refine ⟨fun _ _ h => mem_one (by simp) h, ?_⟩
        refine GA.less (L' := wSeg b22 (.slice aN i cN) (.slice aS i cS) (.slice aL i cL) 0 (-1) :: sN :: sS :: sL :: pl.map wblk :: devSeg bd b2 (newDv N) :: [(b35, .row (bytesV zero64) 5 64)] :: [(b36, .row [.slice (some ⟨b35, 0, none⟩) 64 64] 31 1)] :: [(b42, .row (bytesV zero64) 5 64)] :: [(b43, .row [.slice (some ⟨b42, 0, none⟩) 64 64] 31 1)] :: [(b49, .row [.bool false] 4 1)] :: []) (fun _ h => h.of_flat (List.perm_append_comm_assoc [_] [_, _, _, _, _, _, _, _, _, _] _).flatten) ?_
        exact key_7_8_14_15_21 _ _ ⟨b35, b36, b42, b43, b49, rfl, rfl, rfl, rfl, rfl, rfl, rfl, rfl, rfl, rfl, rfl, rfl, rfl, rfl, rfl, rfl, rfl⟩
    intro key_7_8_14_15
    refine GA.cut 13 (#[true, true, true, true, true, true, true, true, true, false, true, true, true, true, true, false, false, true, true, true, true, true, false, false, false, false, false, false, false, false, false, false]) (fun F L => ∃ (b35 : Nat) (b36 : Nat) (b42 : Nat) (b49 : Nat), F 35 = .slice (some ⟨b35, 0, none⟩) 64 64 ∧ F 36 = .slice (some ⟨b36, 0, none⟩) 1 1 ∧ F 42 = .slice (some ⟨b42, 0, none⟩) 64 64 ∧ F 49 = .slice (some ⟨b49, 0, none⟩) 1 1 ∧ F 0 = .int .i64 (N : Int) ∧ F 1 = .slice a ops.length cap ∧ F 6 = ptr bd ∧ F 7 = ptr b22 ∧ F 8 = .int .i64 (i : Int) ∧ F 28 = ptr b22 ∧ F 29 = ptr b22 ∧ F 30 = ptr b22 ∧ F 34 = .slice aN i cN ∧ F 41 = .slice aS i cS ∧ F 48 = .slice aL i cL ∧ wSeg b22 (.slice aN i cN) (.slice aS i cS) (.slice aL i cL) 0 (-1) :: sN :: sS :: sL :: pl.map wblk :: devSeg bd b2 (newDv N) :: [(b35, .row (bytesV zero64) 5 64)] :: [(b36, .row [.slice (some ⟨b35, 0, none⟩) 64 64] 31 1)] :: [(b42, .row (bytesV zero64) 5 64)] :: [(b49, .row [.bool false] 4 1)] :: [] = L) ?_ ?_
    ·
      rintro F L ⟨b35, b36, b42, b49, hf35, hf36, hf42, hf49, hf0, hf1, hf6, hf7, hf8, hf28, hf29, hf30, hf34, hf41, hf48, rfl⟩
      refine GA.fix (d := 35) hf35 ?_
      refine GA.fix (d := 36) hf36 ?_
      refine GA.fix (d := 42) hf42 ?_
      refine GA.fix (d := 49) hf49 ?_
      refine GA.fix (d := 0) hf0 ?_
      refine GA.fix (d := 1) hf1 ?_
      refine GA.fix (d := 6) hf6 ?_
      refine GA.fix (d := 7) hf7 ?_
      refine GA.fix (d := 8) hf8 ?_
      refine GA.fix (d := 28) hf28 ?_
      refine GA.fix (d := 29) hf29 ?_
      refine GA.fix (d := 30) hf30 ?_
      refine GA.fix (d := 34) hf34 ?_
      refine GA.fix (d := 41) hf41 ?_
      refine GA.fix (d := 48) hf48 ?_
      refine GA.two (i := 9) (j := 15) (by kernel_rfl) rfl rfl (#[true, true, true, true, true, true, true, true, true, true, true, true, true, true, true, false, false, true, true, true, true, true, false, false, false, false, false, false, false, false, false, false]) (#[true, true, true, true, true, true, true, true, true, false, true, true, true, true, true, true, false, true, true, true, true, true, false, false, false, false, false, false, false, false, false, false]) (by kernel_rfl) (by kernel_rfl) ?_ ?_
      ·
        refine G.less (L' := sN :: _) (fun _ h => h.of_flat (List.perm_middle (l₁ := [_]) (a := sN)).flatten) ?_
        refine G.append hoN rfl trivial rfl rfl Try.underlying27 Try.underlying27 I31 rfl (by decide) rfl rfl (by decide) (Rd.row0 (.next (.next (.next (.next (.next (.next (.next .here)))))))) rfl (by intro v hv; rw [List.mem_singleton.1 hv]; rfl) (by omega) ?_
        intro v37 s37 hv37
        obtain ⟨a37, c37, rfl, _⟩ := hv37.form
        refine G.nil ?_
        refine ⟨fun _ _ h => mem_one (by simp) h, ?_⟩
        refine GA.less (L' := wSeg b22 (.slice aN i cN) (.slice aS i cS) (.slice aL i cL) 0 (-1) :: s37 :: sS :: sL :: pl.map wblk :: devSeg bd b2 (newDv N) :: [(b35, .row (bytesV zero64) 5 64)] :: [(b36, .row [.slice (some ⟨b35, 0, none⟩) 64 64] 31 1)] :: [(b42, .row (bytesV zero64) 5 64)] :: [(b49, .row [.bool false] 4 1)] :: []) (fun _ h => h.of_flat (List.perm_append_comm_assoc [_] [_] _).flatten) ?_
        exact key_7_8_9_14_21 _ _ ⟨b35, b36, a37, c37, s37, b42, b49, hv37, rfl, rfl, rfl, rfl, rfl, rfl, rfl, rfl, rfl, rfl, rfl, rfl, rfl, rfl, rfl, rfl, rfl⟩
      ·
        refine G.buildSliceL (cs := [.slice (some ⟨b42, 0, none⟩) 64 64]) (zs := [(.slice none 0 0)]) rfl trivial rfl rfl Try.underlying27 I31 rfl (by kernel_rfl) rfl rfl ?_
        intro b43
        refine G.nil ?_
        refine ⟨fun _ _ h => mem_one (by simp) h, ?_⟩
        refine GA.less (L' := wSeg b22 (.slice aN i cN) (.slice aS i cS) (.slice aL i cL) 0 (-1) :: sN :: sS :: sL :: pl.map wblk :: devSeg bd b2 (newDv N) :: [(b35, .row (bytesV zero64) 5 64)] :: [(b36, .row [.slice (some ⟨b35, 0, none⟩) 64 64] 31 1)] :: [(b42, .row (bytesV zero64) 5 64)] :: [(b43, .row [.slice (some ⟨b42, 0, none⟩) 64 64] 31 1)] :: [(b49, .row [.bool false] 4 1)] :: []) (fun _ h => h.of_flat (List.perm_append_comm_assoc [_] [_, _, _, _, _, _, _, _, _] _).flatten) ?_
        exact key_7_8_14_15_21 _ _ ⟨b35, b36, b42, b43, b49, rfl, rfl, rfl, rfl, rfl, rfl, rfl, rfl, rfl, rfl, rfl, rfl, rfl, rfl, rfl, rfl, rfl⟩
    intro key_7_8_14_21
    refine GA.cut 14 (#[true, true, true, true, true, true, true, true, true, false, true, true, true, true, true, false, false, true, true, true, true, false, false, false, false, false, false, false, false, false, false, false]) (fun F L => ∃ (b35 : Nat) (b36 : Nat) (b42 : Nat), F 35 = .slice (some ⟨b35, 0, none⟩) 64 64 ∧ F 36 = .slice (some ⟨b36, 0, none⟩) 1 1 ∧ F 42 = .slice (some ⟨b42, 0, none⟩) 64 64 ∧ F 0 = .int .i64 (N : Int) ∧ F 1 = .slice a ops.length cap ∧ F 6 = ptr bd ∧ F 7 = ptr b22 ∧ F 8 = .int .i64 (i : Int) ∧ F 28 = ptr b22 ∧ F 29 = ptr b22 ∧ F 30 = ptr b22 ∧ F 34 = .slice aN i cN ∧ F 41 = .slice aS i cS ∧ F 48 = .slice aL i cL ∧ wSeg b22 (.slice aN i cN) (.slice aS i cS) (.slice aL i cL) 0 (-1) :: sN :: sS :: sL :: pl.map wblk :: devSeg bd b2 (newDv N) :: [(b35, .row (bytesV zero64) 5 64)] :: [(b36, .row [.slice (some ⟨b35, 0, none⟩) 64 64] 31 1)] :: [(b42, .row (bytesV zero64) 5 64)] :: [] = L) ?_ ?_
    ·
      rintro F L ⟨b35, b36, b42, hf35, hf36, hf42, hf0, hf1, hf6, hf7, hf8, hf28, hf29, hf30, hf34, hf41, hf48, rfl⟩
      refine GA.fix (d := 35) hf35 ?_
      refine GA.fix (d := 36) hf36 ?_
      refine GA.fix (d := 42) hf42 ?_
      refine GA.fix (d := 0) hf0 ?_
      refine GA.fix (d := 1) hf1 ?_
      refine GA.fix (d := 6) hf6 ?_
      refine GA.fix (d := 7) hf7 ?_
      refine GA.fix (d := 8) hf8 ?_
      refine GA.fix (d := 28) hf28 ?_
      refine GA.fix (d := 29) hf29 ?_
      refine GA.fix (d := 30) hf30 ?_
      refine GA.fix (d := 34) hf34 ?_
      refine GA.fix (d := 41) hf41 ?_
      refine GA.fix (d := 48) hf48 ?_
      refine GA.three (i := 9) (j := 15) (l := 21) (by kernel_rfl) rfl rfl rfl (#[true, true, true, true, true, true, true, true, true, true, true, true, true, true, true, false, false, true, true, true, true, false, false, false, false, false, false, false, false, false, false, false]) (#[true, true, true, true, true, true, true, true, true, false, true, true, true, true, true, true, false, true, true, true, true, false, false, false, false, false, false, false, false, false, false, false]) (#[true, true, true, true, true, true, true, true, true, false, true, true, true, true, true, false, false, true, true, true, true, true, false, false, false, false, false, false, false, false, false, false]) (by kernel_rfl) (by kernel_rfl) (by kernel_rfl) ?_ ?_ ?_
      ·
        refine G.less (L' := sN :: _) (fun _ h => h.of_flat (List.perm_middle (l₁ := [_]) (a := sN)).flatten) ?_
        refine G.append hoN rfl trivial rfl rfl Try.underlying27 Try.underlying27 I31 rfl (by decide) rfl rfl (by decide) (Rd.row0 (.next (.next (.next (.next (.next (.next (.next .here)))))))) rfl (by intro v hv; rw [List.mem_singleton.1 hv]; rfl) (by omega) ?_
        intro v37 s37 hv37
        obtain ⟨a37, c37, rfl, _⟩ := hv37.form
        refine G.nil ?_
        refine ⟨fun _ _ h => mem_one (by simp) h, ?_⟩
        refine GA.less (L' := wSeg b22 (.slice aN i cN) (.slice aS i cS) (.slice aL i cL) 0 (-1) :: s37 :: sS :: sL :: pl.map wblk :: devSeg bd b2 (newDv N) :: [(b35, .row (bytesV zero64) 5 64)] :: [(b36, .row [.slice (some ⟨b35, 0, none⟩) 64 64] 31 1)] :: [(b42, .row (bytesV zero64) 5 64)] :: []) (fun _ h => h.of_flat (List.perm_append_comm_assoc [_] [_] _).flatten) ?_
        exact key_7_8_9_14 _ _ ⟨b35, b36, a37, c37, s37, b42, hv37, rfl, rfl, rfl, rfl, rfl, rfl, rfl, rfl, rfl, rfl, rfl, rfl, rfl, rfl, rfl, rfl⟩
      ·
        refine G.buildSliceL (cs := [.slice (some ⟨b42, 0, none⟩) 64 64]) (zs := [(.slice none 0 0)]) rfl trivial rfl rfl Try.underlying27 I31 rfl (by kernel_rfl) rfl rfl ?_
        intro b43
        refine G.nil ?_
        refine ⟨fun _ _ h => mem_one (by simp) h, ?_⟩
        refine GA.less (L' := wSeg b22 (.slice aN i cN) (.slice aS i cS) (.slice aL i cL) 0 (-1) :: sN :: sS :: sL :: pl.map wblk :: devSeg bd b2 (newDv N) :: [(b35, .row (bytesV zero64) 5 64)] :: [(b36, .row [.slice (some ⟨b35, 0, none⟩) 64 64] 31 1)] :: [(b42, .row (bytesV zero64) 5 64)] :: [(b43, .row [.slice (some ⟨b42, 0, none⟩) 64 64] 31 1)] :: []) (fun _ h => h.of_flat (List.perm_append_comm_assoc [_] [_, _, _, _, _, _, _, _, _] _).flatten) ?_
        exact key_7_8_14_15 _ _ ⟨b35, b36, b42, b43, rfl, rfl, rfl, rfl, rfl, rfl, rfl, rfl, rfl, rfl, rfl, rfl, rfl, rfl, rfl, rfl⟩
      ·
        refine G.buildSliceL (cs := [.bool false]) (zs := [(.bool false)]) rfl trivial rfl rfl Try.underlying28 I4 rfl (by kernel_rfl) rfl rfl ?_
        intro b49
        refine G.nil ?_
        refine ⟨fun _ _ h => mem_one (by simp) h, ?_⟩
        refine GA.less (L' := wSeg b22 (.slice aN i cN) (.slice aS i cS) (.slice aL i cL) 0 (-1) :: sN :: sS :: sL :: pl.map wblk :: devSeg bd b2 (newDv N) :: [(b35, .row (bytesV zero64) 5 64)] :: [(b36, .row [.slice (some ⟨b35, 0, none⟩) 64 64] 31 1)] :: [(b42, .row (bytesV zero64) 5 64)] :: [(b49, .row [.bool false] 4 1)] :: []) (fun _ h => h.of_flat (List.perm_append_comm_assoc [_] [_, _, _, _, _, _, _, _, _] _).flatten) ?_
        exact key_7_8_14_21 _ _ ⟨b35, b36, b42, b49, rfl, rfl, rfl, rfl, rfl, rfl, rfl, rfl, rfl, rfl, rfl, rfl, rfl, rfl, rfl, rfl⟩
    intro key_7_8_14
    refine GA.cut 14 (#[true, true, true, true, true, true, true, true, true, false, true, true, true, true, false, false, false, true, true, true, true, true, false, false, false, false, false, false, false, false, false, false]) (fun F L => ∃ (b35 : Nat) (b36 : Nat) (b49 : Nat), F 35 = .slice (some ⟨b35, 0, none⟩) 64 64 ∧ F 36 = .slice (some ⟨b36, 0, none⟩) 1 1 ∧ F 49 = .slice (some ⟨b49, 0, none⟩) 1 1 ∧ F 0 = .int .i64 (N : Int) ∧ F 1 = .slice a ops.length cap ∧ F 6 = ptr bd ∧ F 7 = ptr b22 ∧ F 8 = .int .i64 (i : Int) ∧ F 28 = ptr b22 ∧ F 29 = ptr b22 ∧ F 30 = ptr b22 ∧ F 34 = .slice aN i cN ∧ F 41 = .slice aS i cS ∧ F 48 = .slice aL i cL ∧ wSeg b22 (.slice aN i cN) (.slice aS i cS) (.slice aL i cL) 0 (-1) :: sN :: sS :: sL :: pl.map wblk :: devSeg bd b2 (newDv N) :: [(b35, .row (bytesV zero64) 5 64)] :: [(b36, .row [.slice (some ⟨b35, 0, none⟩) 64 64] 31 1)] :: [(b49, .row [.bool false] 4 1)] :: [] = L) ?_ ?_
    ·
      rintro F L ⟨b35, b36, b49, hf35, hf36, hf49, hf0, hf1, hf6, hf7, hf8, hf28, hf29, hf30, hf34, hf41, hf48, rfl⟩
      refine GA.fix (d := 35) hf35 ?_
      refine GA.fix (d := 36) hf36 ?_
      refine GA.fix (d := 49) hf49 ?_
      refine GA.fix (d := 0) hf0 ?_
      refine GA.fix (d := 1) hf1 ?_
      refine GA.fix (d := 6) hf6 ?_
      refine GA.fix (d := 7) hf7 ?_
      refine GA.fix (d := 8) hf8 ?_
      refine GA.fix (d := 28) hf28 ?_
      refine GA.fix (d := 29) hf29 ?_
      refine GA.fix (d := 30) hf30 ?_
      refine GA.fix (d := 34) hf34 ?_
      refine GA.fix (d := 41) hf41 ?_
      refine GA.fix (d := 48) hf48 ?_
      refine GA.two (i := 9) (j := 14) (by kernel_rfl) rfl rfl (#[true, true, true, true, true, true, true, true, true, true, true, true, true, true, false, false, false, true, true, true, true, true, false, false, false, false, false, false, false, false, false, false]) (#[true, true, true, true, true, true, true, true, true, false, true, true, true, true, true, false, false, true, true, true, true, true, false, false, false, false, false, false, false, false, false, false]) (by kernel_rfl) (by kernel_rfl) ?_ ?_
      ·
        refine G.less (L' := sN :: _) (fun _ h => h.of_flat (List.perm_middle (l₁ := [_]) (a := sN)).flatten) ?_
        refine G.append hoN rfl trivial rfl rfl Try.underlying27 Try.underlying27 I31 rfl (by decide) rfl rfl (by decide) (Rd.row0 (.next (.next (.next (.next (.next (.next (.next .here)))))))) rfl (by intro v hv; rw [List.mem_singleton.1 hv]; rfl) (by omega) ?_
        intro v37 s37 hv37
        obtain ⟨a37, c37, rfl, _⟩ := hv37.form
        refine G.nil ?_
        refine ⟨fun _ _ h => mem_one (by simp) h, ?_⟩
        refine GA.less (L' := wSeg b22 (.slice aN i cN) (.slice aS i cS) (.slice aL i cL) 0 (-1) :: s37 :: sS :: sL :: pl.map wblk :: devSeg bd b2 (newDv N) :: [(b35, .row (bytesV zero64) 5 64)] :: [(b36, .row [.slice (some ⟨b35, 0, none⟩) 64 64] 31 1)] :: [(b49, .row [.bool false] 4 1)] :: []) (fun _ h => h.of_flat (List.perm_append_comm_assoc [_] [_] _).flatten) ?_
        exact key_7_8_9_21 _ _ ⟨b35, b36, a37, c37, s37, b49, hv37, rfl, rfl, rfl, rfl, rfl, rfl, rfl, rfl, rfl, rfl, rfl, rfl, rfl, rfl, rfl, rfl⟩
      ·
        refine G.makeBytes (l := 64) (c := 64) rfl trivial rfl rfl Try.underlying31 I5 rfl rfl (by decide) ?_
        intro b42
        refine G.nil ?_
        refine ⟨fun _ _ h => mem_one (by simp) h, ?_⟩
        refine GA.less (L' := wSeg b22 (.slice aN i cN) (.slice aS i cS) (.slice aL i cL) 0 (-1) :: sN :: sS :: sL :: pl.map wblk :: devSeg bd b2 (newDv N) :: [(b35, .row (bytesV zero64) 5 64)] :: [(b36, .row [.slice (some ⟨b35, 0, none⟩) 64 64] 31 1)] :: [(b42, .row (bytesV zero64) 5 64)] :: [(b49, .row [.bool false] 4 1)] :: []) (fun _ h => h.of_flat (List.perm_append_comm_assoc [_] [_, _, _, _, _, _, _, _] _).flatten) ?_
        exact key_7_8_14_21 _ _ ⟨b35, b36, b42, b49, rfl, rfl, rfl, rfl, rfl, rfl, rfl, rfl, rfl, rfl, rfl, rfl, rfl, rfl, rfl, rfl⟩
    intro key_7_8_21
    refine GA.cut 15 (#[true, true, true, true, true, true, true, true, true, false, true, true, true, true, false, false, false, true, true, true, true, false, false, false, false, false, false, false, false, false, false, false]) (fun F L => ∃ (b35 : Nat) (b36 : Nat), F 35 = .slice (some ⟨b35, 0, none⟩) 64 64 ∧ F 36 = .slice (some ⟨b36, 0, none⟩) 1 1 ∧ F 0 = .int .i64 (N : Int) ∧ F 1 = .slice a ops.length cap ∧ F 6 = ptr bd ∧ F 7 = ptr b22 ∧ F 8 = .int .i64 (i : Int) ∧ F 28 = ptr b22 ∧ F 29 = ptr b22 ∧ F 30 = ptr b22 ∧ F 34 = .slice aN i cN ∧ F 41 = .slice aS i cS ∧ F 48 = .slice aL i cL ∧ wSeg b22 (.slice aN i cN) (.slice aS i cS) (.slice aL i cL) 0 (-1) :: sN :: sS :: sL :: pl.map wblk :: devSeg bd b2 (newDv N) :: [(b35, .row (bytesV zero64) 5 64)] :: [(b36, .row [.slice (some ⟨b35, 0, none⟩) 64 64] 31 1)] :: [] = L) ?_ ?_
    ·
      rintro F L ⟨b35, b36, hf35, hf36, hf0, hf1, hf6, hf7, hf8, hf28, hf29, hf30, hf34, hf41, hf48, rfl⟩
      refine GA.fix (d := 35) hf35 ?_
      refine GA.fix (d := 36) hf36 ?_
      refine GA.fix (d := 0) hf0 ?_
      refine GA.fix (d := 1) hf1 ?_
      refine GA.fix (d := 6) hf6 ?_
      refine GA.fix (d := 7) hf7 ?_
      refine GA.fix (d := 8) hf8 ?_
      refine GA.fix (d := 28) hf28 ?_
      refine GA.fix (d := 29) hf29 ?_
      refine GA.fix (d := 30) hf30 ?_
      refine GA.fix (d := 34) hf34 ?_
      refine GA.fix (d := 41) hf41 ?_
      refine GA.fix (d := 48) hf48 ?_
      refine GA.three (i := 9) (j := 14) (l := 21) (by kernel_rfl) rfl rfl rfl (#[true, true, true, true, true, true, true, true, true, true, true, true, true, true, false, false, false, true, true, true, true, false, false, false, false, false, false, false, false, false, false, false]) (#[true, true, true, true, true, true, true, true, true, false, true, true, true, true, true, false, false, true, true, true, true, false, false, false, false, false, false, false, false, false, false, false]) (#[true, true, true, true, true, true, true, true, true, false, true, true, true, true, false, false, false, true, true, true, true, true, false, false, false, false, false, false, false, false, false, false]) (by kernel_rfl) (by kernel_rfl) (by kernel_rfl) ?_ ?_ ?_
      ·
        refine G.less (L' := sN :: _) (fun _ h => h.of_flat (List.perm_middle (l₁ := [_]) (a := sN)).flatten) ?_
        refine G.append hoN rfl trivial rfl rfl Try.underlying27 Try.underlying27 I31 rfl (by decide) rfl rfl (by decide) (Rd.row0 (.next (.next (.next (.next (.next (.next (.next .here)))))))) rfl (by intro v hv; rw [List.mem_singleton.1 hv]; rfl) (by omega) ?_
        intro v37 s37 hv37
        obtain ⟨a37, c37, rfl, _⟩ := hv37.form
        refine G.nil ?_
        refine ⟨fun _ _ h => mem_one (by simp) h, ?_⟩
        refine GA.less (L' := wSeg b22 (.slice aN i cN) (.slice aS i cS) (.slice aL i cL) 0 (-1) :: s37 :: sS :: sL :: pl.map wblk :: devSeg bd b2 (newDv N) :: [(b35, .row (bytesV zero64) 5 64)] :: [(b36, .row [.slice (some ⟨b35, 0, none⟩) 64 64] 31 1)] :: []) (fun _ h => h.of_flat (List.perm_append_comm_assoc [_] [_] _).flatten) ?_
        exact key_7_8_9 _ _ ⟨b35, b36, a37, c37, s37, hv37, rfl, rfl, rfl, rfl, rfl, rfl, rfl, rfl, rfl, rfl, rfl, rfl, rfl, rfl, rfl⟩
      ·
        refine G.makeBytes (l := 64) (c := 64) rfl trivial rfl rfl Try.underlying31 I5 rfl rfl (by decide) ?_
        intro b42
        refine G.nil ?_
        refine ⟨fun _ _ h => mem_one (by simp) h, ?_⟩
        refine GA.less (L' := wSeg b22 (.slice aN i cN) (.slice aS i cS) (.slice aL i cL) 0 (-1) :: sN :: sS :: sL :: pl.map wblk :: devSeg bd b2 (newDv N) :: [(b35, .row (bytesV zero64) 5 64)] :: [(b36, .row [.slice (some ⟨b35, 0, none⟩) 64 64] 31 1)] :: [(b42, .row (bytesV zero64) 5 64)] :: []) (fun _ h => h.of_flat (List.perm_append_comm_assoc [_] [_, _, _, _, _, _, _, _] _).flatten) ?_
        exact key_7_8_14 _ _ ⟨b35, b36, b42, rfl, rfl, rfl, rfl, rfl, rfl, rfl, rfl, rfl, rfl, rfl, rfl, rfl, rfl, rfl⟩
      ·
        refine G.buildSliceL (cs := [.bool false]) (zs := [(.bool false)]) rfl trivial rfl rfl Try.underlying28 I4 rfl (by kernel_rfl) rfl rfl ?_
        intro b49
        refine G.nil ?_
        refine ⟨fun _ _ h => mem_one (by simp) h, ?_⟩
        refine GA.less (L' := wSeg b22 (.slice aN i cN) (.slice aS i cS) (.slice aL i cL) 0 (-1) :: sN :: sS :: sL :: pl.map wblk :: devSeg bd b2 (newDv N) :: [(b35, .row (bytesV zero64) 5 64)] :: [(b36, .row [.slice (some ⟨b35, 0, none⟩) 64 64] 31 1)] :: [(b49, .row [.bool false] 4 1)] :: []) (fun _ h => h.of_flat (List.perm_append_comm_assoc [_] [_, _, _, _, _, _, _, _] _).flatten) ?_
        exact key_7_8_21 _ _ ⟨b35, b36, b49, rfl, rfl, rfl, rfl, rfl, rfl, rfl, rfl, rfl, rfl, rfl, rfl, rfl, rfl, rfl⟩
    intro key_7_8
    refine GA.cut 13 (#[true, true, true, true, true, true, true, true, false, false, true, true, true, true, true, true, false, true, true, true, true, true, false, false, false, false, false, false, false, false, false, false]) (fun F L => ∃ (b35 : Nat) (b42 : Nat) (b43 : Nat) (b49 : Nat), F 35 = .slice (some ⟨b35, 0, none⟩) 64 64 ∧ F 42 = .slice (some ⟨b42, 0, none⟩) 64 64 ∧ F 43 = .slice (some ⟨b43, 0, none⟩) 1 1 ∧ F 49 = .slice (some ⟨b49, 0, none⟩) 1 1 ∧ F 0 = .int .i64 (N : Int) ∧ F 1 = .slice a ops.length cap ∧ F 6 = ptr bd ∧ F 7 = ptr b22 ∧ F 8 = .int .i64 (i : Int) ∧ F 28 = ptr b22 ∧ F 29 = ptr b22 ∧ F 30 = ptr b22 ∧ F 34 = .slice aN i cN ∧ F 41 = .slice aS i cS ∧ F 48 = .slice aL i cL ∧ wSeg b22 (.slice aN i cN) (.slice aS i cS) (.slice aL i cL) 0 (-1) :: sN :: sS :: sL :: pl.map wblk :: devSeg bd b2 (newDv N) :: [(b35, .row (bytesV zero64) 5 64)] :: [(b42, .row (bytesV zero64) 5 64)] :: [(b43, .row [.slice (some ⟨b42, 0, none⟩) 64 64] 31 1)] :: [(b49, .row [.bool false] 4 1)] :: [] = L) ?_ ?_
    ·
      rintro F L ⟨b35, b42, b43, b49, hf35, hf42, hf43, hf49, hf0, hf1, hf6, hf7, hf8, hf28, hf29, hf30, hf34, hf41, hf48, rfl⟩
      refine GA.fix (d := 35) hf35 ?_
      refine GA.fix (d := 42) hf42 ?_
      refine GA.fix (d := 43) hf43 ?_
      refine GA.fix (d := 49) hf49 ?_
      refine GA.fix (d := 0) hf0 ?_
      refine GA.fix (d := 1) hf1 ?_
      refine GA.fix (d := 6) hf6 ?_
      refine GA.fix (d := 7) hf7 ?_
      refine GA.fix (d := 8) hf8 ?_
      refine GA.fix (d := 28) hf28 ?_
      refine GA.fix (d := 29) hf29 ?_
      refine GA.fix (d := 30) hf30 ?_
      refine GA.fix (d := 34) hf34 ?_
      refine GA.fix (d := 41) hf41 ?_
      refine GA.fix (d := 48) hf48 ?_
      refine GA.one (i := 8) rfl (by kernel_rfl) (#[true, true, true, true, true, true, true, true, true, false, true, true, true, true, true, true, false, true, true, true, true, true, false, false, false, false, false, false, false, false, false, false]) (by kernel_rfl) ?_
      refine G.buildSliceL (cs := [.slice (some ⟨b35, 0, none⟩) 64 64]) (zs := [(.slice none 0 0)]) rfl trivial rfl rfl Try.underlying27 I31 rfl (by kernel_rfl) rfl rfl ?_
      intro b36
      refine G.nil ?_
      refine ⟨fun _ _ h => mem_one (by simp) h, ?_⟩
      refine GA.less (L' := wSeg b22 (.slice aN i cN) (.slice aS i cS) (.slice aL i cL) 0 (-1) :: sN :: sS :: sL :: pl.map wblk :: devSeg bd b2 (newDv N) :: [(b35, .row (bytesV zero64) 5 64)] :: [(b36, .row [.slice (some ⟨b35, 0, none⟩) 64 64] 31 1)] :: [(b42, .row (bytesV zero64) 5 64)] :: [(b43, .row [.slice (some ⟨b42, 0, none⟩) 64 64] 31 1)] :: [(b49, .row [.bool false] 4 1)] :: []) (fun _ h => h.of_flat (List.perm_append_comm_assoc [_] [_, _, _, _, _, _, _] _).flatten) ?_
      exact key_7_8_14_15_21 _ _ ⟨b35, b36, b42, b43, b49, rfl, rfl, rfl, rfl, rfl, rfl, rfl, rfl, rfl, rfl, rfl, rfl, rfl, rfl, rfl, rfl, rfl⟩
    intro key_7_14_15_21
    refine GA.cut 14 (#[true, true, true, true, true, true, true, true, false, false, true, true, true, true, true, true, false, true, true, true, true, false, false, false, false, false, false, false, false, false, false, false]) (fun F L => ∃ (b35 : Nat) (b42 : Nat) (b43 : Nat), F 35 = .slice (some ⟨b35, 0, none⟩) 64 64 ∧ F 42 = .slice (some ⟨b42, 0, none⟩) 64 64 ∧ F 43 = .slice (some ⟨b43, 0, none⟩) 1 1 ∧ F 0 = .int .i64 (N : Int) ∧ F 1 = .slice a ops.length cap ∧ F 6 = ptr bd ∧ F 7 = ptr b22 ∧ F 8 = .int .i64 (i : Int) ∧ F 28 = ptr b22 ∧ F 29 = ptr b22 ∧ F 30 = ptr b22 ∧ F 34 = .slice aN i cN ∧ F 41 = .slice aS i cS ∧ F 48 = .slice aL i cL ∧ wSeg b22 (.slice aN i cN) (.slice aS i cS) (.slice aL i cL) 0 (-1) :: sN :: sS :: sL :: pl.map wblk :: devSeg bd b2 (newDv N) :: [(b35, .row (bytesV zero64) 5 64)] :: [(b42, .row (bytesV zero64) 5 64)] :: [(b43, .row [.slice (some ⟨b42, 0, none⟩) 64 64] 31 1)] :: [] = L) ?_ ?_
    ·
      rintro F L ⟨b35, b42, b43, hf35, hf42, hf43, hf0, hf1, hf6, hf7, hf8, hf28, hf29, hf30, hf34, hf41, hf48, rfl⟩
      refine GA.fix (d := 35) hf35 ?_
      refine GA.fix (d := 42) hf42 ?_
      refine GA.fix (d := 43) hf43 ?_
      refine GA.fix (d := 0) hf0 ?_
      refine GA.fix (d := 1) hf1 ?_
      refine GA.fix (d := 6) hf6 ?_
      refine GA.fix (d := 7) hf7 ?_
      refine GA.fix (d := 8) hf8 ?_
      refine GA.fix (d := 28) hf28 ?_
      refine GA.fix (d := 29) hf29 ?_
      refine GA.fix (d := 30) hf30 ?_
      refine GA.fix (d := 34) hf34 ?_
      refine GA.fix (d := 41) hf41 ?_
      refine GA.fix (d := 48) hf48 ?_
      refine GA.two (i := 8) (j := 21) (by kernel_rfl) rfl rfl (#[true, true, true, true, true, true, true, true, true, false, true, true, true, true, true, true, false, true, true, true, true, false, false, false, false, false, false, false, false, false, false, false]) (#[true, true, true, true, true, true, true, true, false, false, true, true, true, true, true, true, false, true, true, true, true, true, false, false, false, false, false, false, false, false, false, false]) (by kernel_rfl) (by kernel_rfl) ?_ ?_
      ·
        refine G.buildSliceL (cs := [.slice (some ⟨b35, 0, none⟩) 64 64]) (zs := [(.slice none 0 0)]) rfl trivial rfl rfl Try.underlying27 I31 rfl (by kernel_rfl) rfl rfl ?_
        intro b36
        refine G.nil ?_
        refine ⟨fun _ _ h => mem_one (by simp) h, ?_⟩
        refine GA.less (L' := wSeg b22 (.slice aN i cN) (.slice aS i cS) (.slice aL i cL) 0 (-1) :: sN :: sS :: sL :: pl.map wblk :: devSeg bd b2 (newDv N) :: [(b35, .row (bytesV zero64) 5 64)] :: [(b36, .row [.slice (some ⟨b35, 0, none⟩) 64 64] 31 1)] :: [(b42, .row (bytesV zero64) 5 64)] :: [(b43, .row [.slice (some ⟨b42, 0, none⟩) 64 64] 31 1)] :: []) (fun _ h => h.of_flat (List.perm_append_comm_assoc [_] [_, _, _, _, _, _, _] _).flatten) ?_
        exact key_7_8_14_15 _ _ ⟨b35, b36, b42, b43, rfl, rfl, rfl, rfl, rfl, rfl, rfl, rfl, rfl, rfl, rfl, rfl, rfl, rfl, rfl, rfl⟩
      ·
        refine G.buildSliceL (cs := [.bool false]) (zs := [(.bool false)]) rfl trivial rfl rfl Try.underlying28 I4 rfl (by kernel_rfl) rfl rfl ?_
        intro b49
        refine G.nil ?_
        refine ⟨fun _ _ h => mem_one (by simp) h, ?_⟩
        refine GA.less (L' := wSeg b22 (.slice aN i cN) (.slice aS i cS) (.slice aL i cL) 0 (-1) :: sN :: sS :: sL :: pl.map wblk :: devSeg bd b2 (newDv N) :: [(b35, .row (bytesV zero64) 5 64)] :: [(b42, .row (bytesV zero64) 5 64)] :: [(b43, .row [.slice (some ⟨b42, 0, none⟩) 64 64] 31 1)] :: [(b49, .row [.bool false] 4 1)] :: []) (fun _ h => h.of_flat (List.perm_append_comm_assoc [_] [_, _, _, _, _, _, _, _, _] _).flatten) ?_
        exact key_7_14_15_21 _ _ ⟨b35, b42, b43, b49, rfl, rfl, rfl, rfl, rfl, rfl, rfl, rfl, rfl, rfl, rfl, rfl, rfl, rfl, rfl, rfl⟩
    intro key_7_14_15
    refine GA.cut 14 (#[true, true, true, true, true, true, true, true, false, false, true, true, true, true, true, false, false, true, true, true, true, true, false, false, false, false, false, false, false, false, false, false]) (fun F L => ∃ (b35 : Nat) (b42 : Nat) (b49 : Nat), F 35 = .slice (some ⟨b35, 0, none⟩) 64 64 ∧ F 42 = .slice (some ⟨b42, 0, none⟩) 64 64 ∧ F 49 = .slice (some ⟨b49, 0, none⟩) 1 1 ∧ F 0 = .int .i64 (N : Int) ∧ F 1 = .slice a ops.length cap ∧ F 6 = ptr bd ∧ F 7 = ptr b22 ∧ F 8 = .int .i64 (i : Int) ∧ F 28 = ptr b22 ∧ F 29 = ptr b22 ∧ F 30 = ptr b22 ∧ F 34 = .slice aN i cN ∧ F 41 = .slice aS i cS ∧ F 48 = .slice aL i cL ∧ wSeg b22 (.slice aN i cN) (.slice aS i cS) (.slice aL i cL) 0 (-1) :: sN :: sS :: sL :: pl.map wblk :: devSeg bd b2 (newDv N) :: [(b35, .row (bytesV zero64) 5 64)] :: [(b42, .row (bytesV zero64) 5 64)] :: [(b49, .row [.bool false] 4 1)] :: [] = L) ?_ ?_
    ·
      rintro F L ⟨b35, b42, b49, hf35, hf42, hf49, hf0, hf1, hf6, hf7, hf8, hf28, hf29, hf30, hf34, hf41, hf48, rfl⟩
      refine GA.fix (d := 35) hf35 ?_
      refine GA.fix (d := 42) hf42 ?_
      refine GA.fix (d := 49) hf49 ?_
      refine GA.fix (d := 0) hf0 ?_
      refine GA.fix (d := 1) hf1 ?_
      refine GA.fix (d := 6) hf6 ?_
      refine GA.fix (d := 7) hf7 ?_
      refine GA.fix (d := 8) hf8 ?_
      refine GA.fix (d := 28) hf28 ?_
      refine GA.fix (d := 29) hf29 ?_
      refine GA.fix (d := 30) hf30 ?_
      refine GA.fix (d := 34) hf34 ?_
      refine GA.fix (d := 41) hf41 ?_
      refine GA.fix (d := 48) hf48 ?_
      refine GA.two (i := 8) (j := 15) (by kernel_rfl) rfl rfl (#[true, true, true, true, true, true, true, true, true, false, true, true, true, true, true, false, false, true, true, true, true, true, false, false, false, false, false, false, false, false, false, false]) (#[true, true, true, true, true, true, true, true, false, false, true, true, true, true, true, true, false, true, true, true, true, true, false, false, false, false, false, false, false, false, false, false]) (by kernel_rfl) (by kernel_rfl) ?_ ?_
      ·
        refine G.buildSliceL (cs := [.slice (some ⟨b35, 0, none⟩) 64 64]) (zs := [(.slice none 0 0)]) rfl trivial rfl rfl Try.underlying27 I31 rfl (by kernel_rfl) rfl rfl ?_
        intro b36
        refine G.nil ?_
        refine ⟨fun _ _ h => mem_one (by simp) h, ?_⟩
        refine GA.less (L' := wSeg b22 (.slice aN i cN) (.slice aS i cS) (.slice aL i cL) 0 (-1) :: sN :: sS :: sL :: pl.map wblk :: devSeg bd b2 (newDv N) :: [(b35, .row (bytesV zero64) 5 64)] :: [(b36, .row [.slice (some ⟨b35, 0, none⟩) 64 64] 31 1)] :: [(b42, .row (bytesV zero64) 5 64)] :: [(b49, .row [.bool false] 4 1)] :: []) (fun _ h => h.of_flat (List.perm_append_comm_assoc [_] [_, _, _, _, _, _, _] _).flatten) ?_
        exact key_7_8_14_21 _ _ ⟨b35, b36, b42, b49, rfl, rfl, rfl, rfl, rfl, rfl, rfl, rfl, rfl, rfl, rfl, rfl, rfl, rfl, rfl, rfl⟩
      ·
        refine G.buildSliceL (cs := [.slice (some ⟨b42, 0, none⟩) 64 64]) (zs := [(.slice none 0 0)]) rfl trivial rfl rfl Try.underlying27 I31 rfl (by kernel_rfl) rfl rfl ?_
        intro b43
        refine G.nil ?_
        refine ⟨fun _ _ h => mem_one (by simp) h, ?_⟩
        refine GA.less (L' := wSeg b22 (.slice aN i cN) (.slice aS i cS) (.slice aL i cL) 0 (-1) :: sN :: sS :: sL :: pl.map wblk :: devSeg bd b2 (newDv N) :: [(b35, .row (bytesV zero64) 5 64)] :: [(b42, .row (bytesV zero64) 5 64)] :: [(b43, .row [.slice (some ⟨b42, 0, none⟩) 64 64] 31 1)] :: [(b49, .row [.bool false] 4 1)] :: []) (fun _ h => h.of_flat (List.perm_append_comm_assoc [_] [_, _, _, _, _, _, _, _] _).flatten) ?_
        exact key_7_14_15_21 _ _ ⟨b35, b42, b43, b49, rfl, rfl, rfl, rfl, rfl, rfl, rfl, rfl, rfl, rfl, rfl, rfl, rfl, rfl, rfl, rfl⟩
    intro key_7_14_21
    refine GA.cut 15 (#[true, true, true, true, true, true, true, true, false, false, true, true, true, true, true, false, false, true, true, true, true, false, false, false, false, false, false, false, false, false, false, false]) (fun F L => ∃ (b35 : Nat) (b42 : Nat), F 35 = .slice (some ⟨b35, 0, none⟩) 64 64 ∧ F 42 = .slice (some ⟨b42, 0, none⟩) 64 64 ∧ F 0 = .int .i64 (N : Int) ∧ F 1 = .slice a ops.length cap ∧ F 6 = ptr bd ∧ F 7 = ptr b22 ∧ F 8 = .int .i64 (i : Int) ∧ F 28 = ptr b22 ∧ F 29 = ptr b22 ∧ F 30 = ptr b22 ∧ F 34 = .slice aN i cN ∧ F 41 = .slice aS i cS ∧ F 48 = .slice aL i cL ∧ wSeg b22 (.slice aN i cN) (.slice aS i cS) (.slice aL i cL) 0 (-1) :: sN :: sS :: sL :: pl.map wblk :: devSeg bd b2 (newDv N) :: [(b35, .row (bytesV zero64) 5 64)] :: [(b42, .row (bytesV zero64) 5 64)] :: [] = L) ?_ ?_
    ·
      rintro F L ⟨b35, b42, hf35, hf42, hf0, hf1, hf6, hf7, hf8, hf28, hf29, hf30, hf34, hf41, hf48, rfl⟩
      refine GA.fix (d := 35) hf35 ?_
      refine GA.fix (d := 42) hf42 ?_
      refine GA.fix (d := 0) hf0 ?_
      refine GA.fix (d := 1) hf1 ?_
      refine GA.fix (d := 6) hf6 ?_
      refine GA.fix (d := 7) hf7 ?_
      refine GA.fix (d := 8) hf8 ?_
      refine GA.fix (d := 28) hf28 ?_
      refine GA.fix (d := 29) hf29 ?_
      refine GA.fix (d := 30) hf30 ?_
      refine GA.fix (d := 34) hf34 ?_
      refine GA.fix (d := 41) hf41 ?_
      refine GA.fix (d := 48) hf48 ?_
      refine GA.three (i := 8) (j := 15) (l := 21) (by kernel_rfl) rfl rfl rfl (#[true, true, true, true, true, true, true, true, true, false, true, true, true, true, true, false, false, true, true, true, true, false, false, false, false, false, false, false, false, false, false, false]) (#[true, true, true, true, true, true, true, true, false, false, true, true, true, true, true, true, false, true, true, true, true, false, false, false, false, false, false, false, false, false, false, false]) (#[true, true, true, true, true, true, true, true, false, false, true, true, true, true, true, false, false, true, true, true, true, true, false, false, false, false, false, false, false, false, false, false]) (by kernel_rfl) (by kernel_rfl) (by kernel_rfl) ?_ ?_ ?_
      ·
        refine G.buildSliceL (cs := [.slice (some ⟨b35, 0, none⟩) 64 64]) (zs := [(.slice none 0 0)]) rfl trivial rfl rfl Try.underlying27 I31 rfl (by kernel_rfl) rfl rfl ?_
        intro b36
        refine G.nil ?_
        refine ⟨fun _ _ h => mem_one (by simp) h, ?_⟩
        refine GA.less (L' := wSeg b22 (.slice aN i cN) (.slice aS i cS) (.slice aL i cL) 0 (-1) :: sN :: sS :: sL :: pl.map wblk :: devSeg bd b2 (newDv N) :: [(b35, .row (bytesV zero64) 5 64)] :: [(b36, .row [.slice (some ⟨b35, 0, none⟩) 64 64] 31 1)] :: [(b42, .row (bytesV zero64) 5 64)] :: []) (fun _ h => h.of_flat (List.perm_append_comm_assoc [_] [_, _, _, _, _, _, _] _).flatten) ?_
        exact key_7_8_14 _ _ ⟨b35, b36, b42, rfl, rfl, rfl, rfl, rfl, rfl, rfl, rfl, rfl, rfl, rfl, rfl, rfl, rfl, rfl⟩
      ·
        refine G.buildSliceL (cs := [.slice (some ⟨b42, 0, none⟩) 64 64]) (zs := [(.slice none 0 0)]) rfl trivial rfl rfl Try.underlying27 I31 rfl (by kernel_rfl) rfl rfl ?_
        intro b43
        refine G.nil ?_
        refine ⟨fun _ _ h => mem_one (by simp) h, ?_⟩
        refine GA.less (L' := wSeg b22 (.slice aN i cN) (.slice aS i cS) (.slice aL i cL) 0 (-1) :: sN :: sS :: sL :: pl.map wblk :: devSeg bd b2 (newDv N) :: [(b35, .row (bytesV zero64) 5 64)] :: [(b42, .row (bytesV zero64) 5 64)] :: [(b43, .row [.slice (some ⟨b42, 0, none⟩) 64 64] 31 1)] :: []) (fun _ h => h.of_flat (List.perm_append_comm_assoc [_] [_, _, _, _, _, _, _, _] _).flatten) ?_
        exact key_7_14_15 _ _ ⟨b35, b42, b43, rfl, rfl, rfl, rfl, rfl, rfl, rfl, rfl, rfl, rfl, rfl, rfl, rfl, rfl, rfl⟩
      ·
        refine G.buildSliceL (cs := [.bool false]) (zs := [(.bool false)]) rfl trivial rfl rfl Try.underlying28 I4 rfl (by kernel_rfl) rfl rfl ?_
        intro b49
        refine G.nil ?_
        refine ⟨fun _ _ h => mem_one (by simp) h, ?_⟩
        refine GA.less (L' := wSeg b22 (.slice aN i cN) (.slice aS i cS) (.slice aL i cL) 0 (-1) :: sN :: sS :: sL :: pl.map wblk :: devSeg bd b2 (newDv N) :: [(b35, .row (bytesV zero64) 5 64)] :: [(b42, .row (bytesV zero64) 5 64)] :: [(b49, .row [.bool false] 4 1)] :: []) (fun _ h => h.of_flat (List.perm_append_comm_assoc [_] [_, _, _, _, _, _, _, _] _).flatten) ?_
        exact key_7_14_21 _ _ ⟨b35, b42, b49, rfl, rfl, rfl, rfl, rfl, rfl, rfl, rfl, rfl, rfl, rfl, rfl, rfl, rfl, rfl⟩
    intro key_7_14
    refine GA.cut 15 (#[true, true, true, true, true, true, true, true, false, false, true, true, true, true, false, false, false, true, true, true, true, true, false, false, false, false, false, false, false, false, false, false]) (fun F L => ∃ (b35 : Nat) (b49 : Nat), F 35 = .slice (some ⟨b35, 0, none⟩) 64 64 ∧ F 49 = .slice (some ⟨b49, 0, none⟩) 1 1 ∧ F 0 = .int .i64 (N : Int) ∧ F 1 = .slice a ops.length cap ∧ F 6 = ptr bd ∧ F 7 = ptr b22 ∧ F 8 = .int .i64 (i : Int) ∧ F 28 = ptr b22 ∧ F 29 = ptr b22 ∧ F 30 = ptr b22 ∧ F 34 = .slice aN i cN ∧ F 41 = .slice aS i cS ∧ F 48 = .slice aL i cL ∧ wSeg b22 (.slice aN i cN) (.slice aS i cS) (.slice aL i cL) 0 (-1) :: sN :: sS :: sL :: pl.map wblk :: devSeg bd b2 (newDv N) :: [(b35, .row (bytesV zero64) 5 64)] :: [(b49, .row [.bool false] 4 1)] :: [] = L) ?_ ?_
    ·
      rintro F L ⟨b35, b49, hf35, hf49, hf0, hf1, hf6, hf7, hf8, hf28, hf29, hf30, hf34, hf41, hf48, rfl⟩
      refine GA.fix (d := 35) hf35 ?_
      refine GA.fix (d := 49) hf49 ?_
      refine GA.fix (d := 0) hf0 ?_
      refine GA.fix (d := 1) hf1 ?_
      refine GA.fix (d := 6) hf6 ?_
      refine GA.fix (d := 7) hf7 ?_
      refine GA.fix (d := 8) hf8 ?_
      refine GA.fix (d := 28) hf28 ?_
      refine GA.fix (d := 29) hf29 ?_
      refine GA.fix (d := 30) hf30 ?_
      refine GA.fix (d := 34) hf34 ?_
      refine GA.fix (d := 41) hf41 ?_
      refine GA.fix (d := 48) hf48 ?_
      refine GA.two (i := 8) (j := 14) (by kernel_rfl) rfl rfl (#[true, true, true, true, true, true, true, true, true, false, true, true, true, true, false, false, false, true, true, true, true, true, false, false, false, false, false, false, false, false, false, false]) (#[true, true, true, true, true, true, true, true, false, false, true, true, true, true, true, false, false, true, true, true, true, true, false, false, false, false, false, false, false, false, false, false]) (by kernel_rfl) (by kernel_rfl) ?_ ?_
      ·
        refine G.buildSliceL (cs := [.slice (some ⟨b35, 0, none⟩) 64 64]) (zs := [(.slice none 0 0)]) rfl trivial rfl rfl Try.underlying27 I31 rfl (by kernel_rfl) rfl rfl ?_
        intro b36
        refine G.nil ?_
        refine ⟨fun _ _ h => mem_one (by simp) h, ?_⟩
        refine GA.less (L' := wSeg b22 (.slice aN i cN) (.slice aS i cS) (.slice aL i cL) 0 (-1) :: sN :: sS :: sL :: pl.map wblk :: devSeg bd b2 (newDv N) :: [(b35, .row (bytesV zero64) 5 64)] :: [(b36, .row [.slice (some ⟨b35, 0, none⟩) 64 64] 31 1)] :: [(b49, .row [.bool false] 4 1)] :: []) (fun _ h => h.of_flat (List.perm_append_comm_assoc [_] [_, _, _, _, _, _, _] _).flatten) ?_
        exact key_7_8_21 _ _ ⟨b35, b36, b49, rfl, rfl, rfl, rfl, rfl, rfl, rfl, rfl, rfl, rfl, rfl, rfl, rfl, rfl, rfl⟩
      ·
        refine G.makeBytes (l := 64) (c := 64) rfl trivial rfl rfl Try.underlying31 I5 rfl rfl (by decide) ?_
        intro b42
        refine G.nil ?_
        refine ⟨fun _ _ h => mem_one (by simp) h, ?_⟩
        refine GA.less (L' := wSeg b22 (.slice aN i cN) (.slice aS i cS) (.slice aL i cL) 0 (-1) :: sN :: sS :: sL :: pl.map wblk :: devSeg bd b2 (newDv N) :: [(b35, .row (bytesV zero64) 5 64)] :: [(b42, .row (bytesV zero64) 5 64)] :: [(b49, .row [.bool false] 4 1)] :: []) (fun _ h => h.of_flat (List.perm_append_comm_assoc [_] [_, _, _, _, _, _, _] _).flatten) ?_
        exact key_7_14_21 _ _ ⟨b35, b42, b49, rfl, rfl, rfl, rfl, rfl, rfl, rfl, rfl, rfl, rfl, rfl, rfl, rfl, rfl, rfl⟩
    intro key_7_21
    refine GA.cut 16 (#[true, true, true, true, true, true, true, true, false, false, true, true, true, true, false, false, false, true, true, true, true, false, false, false, false, false, false, false, false, false, false, false]) (fun F L => ∃ (b35 : Nat), F 35 = .slice (some ⟨b35, 0, none⟩) 64 64 ∧ F 0 = .int .i64 (N : Int) ∧ F 1 = .slice a ops.length cap ∧ F 6 = ptr bd ∧ F 7 = ptr b22 ∧ F 8 = .int .i64 (i : Int) ∧ F 28 = ptr b22 ∧ F 29 = ptr b22 ∧ F 30 = ptr b22 ∧ F 34 = .slice aN i cN ∧ F 41 = .slice aS i cS ∧ F 48 = .slice aL i cL ∧ wSeg b22 (.slice aN i cN) (.slice aS i cS) (.slice aL i cL) 0 (-1) :: sN :: sS :: sL :: pl.map wblk :: devSeg bd b2 (newDv N) :: [(b35, .row (bytesV zero64) 5 64)] :: [] = L) ?_ ?_
    ·
      rintro F L ⟨b35, hf35, hf0, hf1, hf6, hf7, hf8, hf28, hf29, hf30, hf34, hf41, hf48, rfl⟩
      refine GA.fix (d := 35) hf35 ?_
      refine GA.fix (d := 0) hf0 ?_
      refine GA.fix (d := 1) hf1 ?_
      refine GA.fix (d := 6) hf6 ?_
      refine GA.fix (d := 7) hf7 ?_
      refine GA.fix (d := 8) hf8 ?_
      refine GA.fix (d := 28) hf28 ?_
      refine GA.fix (d := 29) hf29 ?_
      refine GA.fix (d := 30) hf30 ?_
      refine GA.fix (d := 34) hf34 ?_
      refine GA.fix (d := 41) hf41 ?_
      refine GA.fix (d := 48) hf48 ?_
      refine GA.three (i := 8) (j := 14) (l := 21) (by kernel_rfl) rfl rfl rfl (#[true, true, true, true, true, true, true, true, true, false, true, true, true, true, false, false, false, true, true, true, true, false, false, false, false, false, false, false, false, false, false, false]) (#[true, true, true, true, true, true, true, true, false, false, true, true, true, true, true, false, false, true, true, true, true, false, false, false, false, false, false, false, false, false, false, false]) (#[true, true, true, true, true, true, true, true, false, false, true, true, true, true, false, false, false, true, true, true, true, true, false, false, false, false, false, false, false, false, false, false]) (by kernel_rfl) (by kernel_rfl) (by kernel_rfl) ?_ ?_ ?_
      ·
        refine G.buildSliceL (cs := [.slice (some ⟨b35, 0, none⟩) 64 64]) (zs := [(.slice none 0 0)]) rfl trivial rfl rfl Try.underlying27 I31 rfl (by kernel_rfl) rfl rfl ?_
        intro b36
        refine G.nil ?_
        refine ⟨fun _ _ h => mem_one (by simp) h, ?_⟩
        refine GA.less (L' := wSeg b22 (.slice aN i cN) (.slice aS i cS) (.slice aL i cL) 0 (-1) :: sN :: sS :: sL :: pl.map wblk :: devSeg bd b2 (newDv N) :: [(b35, .row (bytesV zero64) 5 64)] :: [(b36, .row [.slice (some ⟨b35, 0, none⟩) 64 64] 31 1)] :: []) (fun _ h => h.of_flat (List.perm_append_comm_assoc [_] [_, _, _, _, _, _, _] _).flatten) ?_
        exact key_7_8 _ _ ⟨b35, b36, rfl, rfl, rfl, rfl, rfl, rfl, rfl, rfl, rfl, rfl, rfl, rfl, rfl, rfl⟩
      ·
        refine G.makeBytes (l := 64) (c := 64) rfl trivial rfl rfl Try.underlying31 I5 rfl rfl (by decide) ?_
        intro b42
        refine G.nil ?_
        refine ⟨fun _ _ h => mem_one (by simp) h, ?_⟩
        refine GA.less (L' := wSeg b22 (.slice aN i cN) (.slice aS i cS) (.slice aL i cL) 0 (-1) :: sN :: sS :: sL :: pl.map wblk :: devSeg bd b2 (newDv N) :: [(b35, .row (bytesV zero64) 5 64)] :: [(b42, .row (bytesV zero64) 5 64)] :: []) (fun _ h => h.of_flat (List.perm_append_comm_assoc [_] [_, _, _, _, _, _, _] _).flatten) ?_
        exact key_7_14 _ _ ⟨b35, b42, rfl, rfl, rfl, rfl, rfl, rfl, rfl, rfl, rfl, rfl, rfl, rfl, rfl, rfl⟩
      ·
        refine G.buildSliceL (cs := [.bool false]) (zs := [(.bool false)]) rfl trivial rfl rfl Try.underlying28 I4 rfl (by kernel_rfl) rfl rfl ?_
        intro b49
        refine G.nil ?_
        refine ⟨fun _ _ h => mem_one (by simp) h, ?_⟩
        refine GA.less (L' := wSeg b22 (.slice aN i cN) (.slice aS i cS) (.slice aL i cL) 0 (-1) :: sN :: sS :: sL :: pl.map wblk :: devSeg bd b2 (newDv N) :: [(b35, .row (bytesV zero64) 5 64)] :: [(b49, .row [.bool false] 4 1)] :: []) (fun _ h => h.of_flat (List.perm_append_comm_assoc [_] [_, _, _, _, _, _, _] _).flatten) ?_
        exact key_7_21 _ _ ⟨b35, b49, rfl, rfl, rfl, rfl, rfl, rfl, rfl, rfl, rfl, rfl, rfl, rfl, rfl, rfl⟩
    intro key_7
    refine GA.cut 14 (#[true, true, true, true, true, true, true, false, false, false, true, true, true, true, true, true, false, true, true, true, true, true, false, false, false, false, false, false, false, false, false, false]) (fun F L => ∃ (b42 : Nat) (b43 : Nat) (b49 : Nat), F 42 = .slice (some ⟨b42, 0, none⟩) 64 64 ∧ F 43 = .slice (some ⟨b43, 0, none⟩) 1 1 ∧ F 49 = .slice (some ⟨b49, 0, none⟩) 1 1 ∧ F 0 = .int .i64 (N : Int) ∧ F 1 = .slice a ops.length cap ∧ F 6 = ptr bd ∧ F 7 = ptr b22 ∧ F 8 = .int .i64 (i : Int) ∧ F 28 = ptr b22 ∧ F 29 = ptr b22 ∧ F 30 = ptr b22 ∧ F 34 = .slice aN i cN ∧ F 41 = .slice aS i cS ∧ F 48 = .slice aL i cL ∧ wSeg b22 (.slice aN i cN) (.slice aS i cS) (.slice aL i cL) 0 (-1) :: sN :: sS :: sL :: pl.map wblk :: devSeg bd b2 (newDv N) :: [(b42, .row (bytesV zero64) 5 64)] :: [(b43, .row [.slice (some ⟨b42, 0, none⟩) 64 64] 31 1)] :: [(b49, .row [.bool false] 4 1)] :: [] = L) ?_ ?_
    ·
      rintro F L ⟨b42, b43, b49, hf42, hf43, hf49, hf0, hf1, hf6, hf7, hf8, hf28, hf29, hf30, hf34, hf41, hf48, rfl⟩
      refine GA.fix (d := 42) hf42 ?_
      refine GA.fix (d := 43) hf43 ?_
      refine GA.fix (d := 49) hf49 ?_
      refine GA.fix (d := 0) hf0 ?_
      refine GA.fix (d := 1) hf1 ?_
      refine GA.fix (d := 6) hf6 ?_
      refine GA.fix (d := 7) hf7 ?_
      refine GA.fix (d := 8) hf8 ?_
      refine GA.fix (d := 28) hf28 ?_
      refine GA.fix (d := 29) hf29 ?_
      refine GA.fix (d := 30) hf30 ?_
      refine GA.fix (d := 34) hf34 ?_
      refine GA.fix (d := 41) hf41 ?_
      refine GA.fix (d := 48) hf48 ?_
      refine GA.one (i := 7) rfl (by kernel_rfl) (#[true, true, true, true, true, true, true, true, false, false, true, true, true, true, true, true, false, true, true, true, true, true, false, false, false, false, false, false, false, false, false, false]) (by kernel_rfl) ?_
      refine G.makeBytes (l := 64) (c := 64) rfl trivial rfl rfl Try.underlying31 I5 rfl rfl (by decide) ?_
      intro b35
      refine G.nil ?_
      refine ⟨fun _ _ h => mem_one (by simp) h, ?_⟩
      refine GA.less (L' := wSeg b22 (.slice aN i cN) (.slice aS i cS) (.slice aL i cL) 0 (-1) :: sN :: sS :: sL :: pl.map wblk :: devSeg bd b2 (newDv N) :: [(b35, .row (bytesV zero64) 5 64)] :: [(b42, .row (bytesV zero64) 5 64)] :: [(b43, .row [.slice (some ⟨b42, 0, none⟩) 64 64] 31 1)] :: [(b49, .row [.bool false] 4 1)] :: []) (fun _ h => h.of_flat (List.perm_append_comm_assoc [_] [_, _, _, _, _, _] _).flatten) ?_
      exact key_7_14_15_21 _ _ ⟨b35, b42, b43, b49, rfl, rfl, rfl, rfl, rfl, rfl, rfl, rfl, rfl, rfl, rfl, rfl, rfl, rfl, rfl, rfl⟩
    intro key_14_15_21
    refine GA.cut 15 (#[true, true, true, true, true, true, true, false, false, false, true, true, true, true, true, true, false, true, true, true, true, false, false, false, false, false, false, false, false, false, false, false]) (fun F L => ∃ (b42 : Nat) (b43 : Nat), F 42 = .slice (some ⟨b42, 0, none⟩) 64 64 ∧ F 43 = .slice (some ⟨b43, 0, none⟩) 1 1 ∧ F 0 = .int .i64 (N : Int) ∧ F 1 = .slice a ops.length cap ∧ F 6 = ptr bd ∧ F 7 = ptr b22 ∧ F 8 = .int .i64 (i : Int) ∧ F 28 = ptr b22 ∧ F 29 = ptr b22 ∧ F 30 = ptr b22 ∧ F 34 = .slice aN i cN ∧ F 41 = .slice aS i cS ∧ F 48 = .slice aL i cL ∧ wSeg b22 (.slice aN i cN) (.slice aS i cS) (.slice aL i cL) 0 (-1) :: sN :: sS :: sL :: pl.map wblk :: devSeg bd b2 (newDv N) :: [(b42, .row (bytesV zero64) 5 64)] :: [(b43, .row [.slice (some ⟨b42, 0, none⟩) 64 64] 31 1)] :: [] = L) ?_ ?_
    ·
      rintro F L ⟨b42, b43, hf42, hf43, hf0, hf1, hf6, hf7, hf8, hf28, hf29, hf30, hf34, hf41, hf48, rfl⟩
      refine GA.fix (d := 42) hf42 ?_
      refine GA.fix (d := 43) hf43 ?_
      refine GA.fix (d := 0) hf0 ?_
      refine GA.fix (d := 1) hf1 ?_
      refine GA.fix (d := 6) hf6 ?_
      refine GA.fix (d := 7) hf7 ?_
      refine GA.fix (d := 8) hf8 ?_
      refine GA.fix (d := 28) hf28 ?_
      refine GA.fix (d := 29) hf29 ?_
      refine GA.fix (d := 30) hf30 ?_
      refine GA.fix (d := 34) hf34 ?_
      refine GA.fix (d := 41) hf41 ?_
      refine GA.fix (d := 48) hf48 ?_
      refine GA.two (i := 7) (j := 21) (by kernel_rfl) rfl rfl (#[true, true, true, true, true, true, true, true, false, false, true, true, true, true, true, true, false, true, true, true, true, false, false, false, false, false, false, false, false, false, false, false]) (#[true, true, true, true, true, true, true, false, false, false, true, true, true, true, true, true, false, true, true, true, true, true, false, false, false, false, false, false, false, false, false, false]) (by kernel_rfl) (by kernel_rfl) ?_ ?_
      ·
        refine G.makeBytes (l := 64) (c := 64) rfl trivial rfl rfl Try.underlying31 I5 rfl rfl (by decide) ?_
        intro b35
        refine G.nil ?_
        refine ⟨fun _ _ h => mem_one (by simp) h, ?_⟩
        refine GA.less (L' := wSeg b22 (.slice aN i cN) (.slice aS i cS) (.slice aL i cL) 0 (-1) :: sN :: sS :: sL :: pl.map wblk :: devSeg bd b2 (newDv N) :: [(b35, .row (bytesV zero64) 5 64)] :: [(b42, .row (bytesV zero64) 5 64)] :: [(b43, .row [.slice (some ⟨b42, 0, none⟩) 64 64] 31 1)] :: []) (fun _ h => h.of_flat (List.perm_append_comm_assoc [_] [_, _, _, _, _, _] _).flatten) ?_
        exact key_7_14_15 _ _ ⟨b35, b42, b43, rfl, rfl, rfl, rfl, rfl, rfl, rfl, rfl, rfl, rfl, rfl, rfl, rfl, rfl, rfl⟩
      ·
        refine G.buildSliceL (cs := [.bool false]) (zs := [(.bool false)]) rfl trivial rfl rfl Try.underlying28 I4 rfl (by kernel_rfl) rfl rfl ?_
        intro b49
        refine G.nil ?_
        refine ⟨fun _ _ h => mem_one (by simp) h, ?_⟩
        refine GA.less (L' := wSeg b22 (.slice aN i cN) (.slice aS i cS) (.slice aL i cL) 0 (-1) :: sN :: sS :: sL :: pl.map wblk :: devSeg bd b2 (newDv N) :: [(b42, .row (bytesV zero64) 5 64)] :: [(b43, .row [.slice (some ⟨b42, 0, none⟩) 64 64] 31 1)] :: [(b49, .row [.bool false] 4 1)] :: []) (fun _ h => h.of_flat (List.perm_append_comm_assoc [_] [_, _, _, _, _, _, _, _] _).flatten) ?_
        exact key_14_15_21 _ _ ⟨b42, b43, b49, rfl, rfl, rfl, rfl, rfl, rfl, rfl, rfl, rfl, rfl, rfl, rfl, rfl, rfl, rfl⟩
    intro key_14_15
    refine GA.cut 15 (#[true, true, true, true, true, true, true, false, false, false, true, true, true, true, true, false, false, true, true, true, true, true, false, false, false, false, false, false, false, false, false, false]) (fun F L => ∃ (b42 : Nat) (b49 : Nat), F 42 = .slice (some ⟨b42, 0, none⟩) 64 64 ∧ F 49 = .slice (some ⟨b49, 0, none⟩) 1 1 ∧ F 0 = .int .i64 (N : Int) ∧ F 1 = .slice a ops.length cap ∧ F 6 = ptr bd ∧ F 7 = ptr b22 ∧ F 8 = .int .i64 (i : Int) ∧ F 28 = ptr b22 ∧ F 29 = ptr b22 ∧ F 30 = ptr b22 ∧ F 34 = .slice aN i cN ∧ F 41 = .slice aS i cS ∧ F 48 = .slice aL i cL ∧ wSeg b22 (.slice aN i cN) (.slice aS i cS) (.slice aL i cL) 0 (-1) :: sN :: sS :: sL :: pl.map wblk :: devSeg bd b2 (newDv N) :: [(b42, .row (bytesV zero64) 5 64)] :: [(b49, .row [.bool false] 4 1)] :: [] = L) ?_ ?_
    ·
      rintro F L ⟨b42, b49, hf42, hf49, hf0, hf1, hf6, hf7, hf8, hf28, hf29, hf30, hf34, hf41, hf48, rfl⟩
      refine GA.fix (d := 42) hf42 ?_
      refine GA.fix (d := 49) hf49 ?_
      refine GA.fix (d := 0) hf0 ?_
      refine GA.fix (d := 1) hf1 ?_
      refine GA.fix (d := 6) hf6 ?_
      refine GA.fix (d := 7) hf7 ?_
      refine GA.fix (d := 8) hf8 ?_
      refine GA.fix (d := 28) hf28 ?_
      refine GA.fix (d := 29) hf29 ?_
      refine GA.fix (d := 30) hf30 ?_
      refine GA.fix (d := 34) hf34 ?_
      refine GA.fix (d := 41) hf41 ?_
      refine GA.fix (d := 48) hf48 ?_
      refine GA.two (i := 7) (j := 15) (by kernel_rfl) rfl rfl (#[true, true, true, true, true, true, true, true, false, false, true, true, true, true, true, false, false, true, true, true, true, true, false, false, false, false, false, false, false, false, false, false]) (#[true, true, true, true, true, true, true, false, false, false, true, true, true, true, true, true, false, true, true, true, true, true, false, false, false, false, false, false, false, false, false, false]) (by kernel_rfl) (by kernel_rfl) ?_ ?_
      ·
        refine G.makeBytes (l := 64) (c := 64) rfl trivial rfl rfl Try.underlying31 I5 rfl rfl (by decide) ?_
        intro b35
        refine G.nil ?_
        refine ⟨fun _ _ h => mem_one (by simp) h, ?_⟩
        refine GA.less (L' := wSeg b22 (.slice aN i cN) (.slice aS i cS) (.slice aL i cL) 0 (-1) :: sN :: sS :: sL :: pl.map wblk :: devSeg bd b2 (newDv N) :: [(b35, .row (bytesV zero64) 5 64)] :: [(b42, .row (bytesV zero64) 5 64)] :: [(b49, .row [.bool false] 4 1)] :: []) (fun _ h => h.of_flat (List.perm_append_comm_assoc [_] [_, _, _, _, _, _] _).flatten) ?_
        exact key_7_14_21 _ _ ⟨b35, b42, b49, rfl, rfl, rfl, rfl, rfl, rfl, rfl, rfl, rfl, rfl, rfl, rfl, rfl, rfl, rfl⟩
      ·
        refine G.buildSliceL (cs := [.slice (some ⟨b42, 0, none⟩) 64 64]) (zs := [(.slice none 0 0)]) rfl trivial rfl rfl Try.underlying27 I31 rfl (by kernel_rfl) rfl rfl ?_
        intro b43
        refine G.nil ?_
        refine ⟨fun _ _ h => mem_one (by simp) h, ?_⟩
        refine GA.less (L' := wSeg b22 (.slice aN i cN) (.slice aS i cS) (.slice aL i cL) 0 (-1) :: sN :: sS :: sL :: pl.map wblk :: devSeg bd b2 (newDv N) :: [(b42, .row (bytesV zero64) 5 64)] :: [(b43, .row [.slice (some ⟨b42, 0, none⟩) 64 64] 31 1)] :: [(b49, .row [.bool false] 4 1)] :: []) (fun _ h => h.of_flat (List.perm_append_comm_assoc [_] [_, _, _, _, _, _, _] _).flatten) ?_
        exact key_14_15_21 _ _ ⟨b42, b43, b49, rfl, rfl, rfl, rfl, rfl, rfl, rfl, rfl, rfl, rfl, rfl, rfl, rfl, rfl, rfl⟩
    intro key_14_21
    refine GA.cut 16 (#[true, true, true, true, true, true, true, false, false, false, true, true, true, true, true, false, false, true, true, true, true, false, false, false, false, false, false, false, false, false, false, false]) (fun F L => ∃ (b42 : Nat), F 42 = .slice (some ⟨b42, 0, none⟩) 64 64 ∧ F 0 = .int .i64 (N : Int) ∧ F 1 = .slice a ops.length cap ∧ F 6 = ptr bd ∧ F 7 = ptr b22 ∧ F 8 = .int .i64 (i : Int) ∧ F 28 = ptr b22 ∧ F 29 = ptr b22 ∧ F 30 = ptr b22 ∧ F 34 = .slice aN i cN ∧ F 41 = .slice aS i cS ∧ F 48 = .slice aL i cL ∧ wSeg b22 (.slice aN i cN) (.slice aS i cS) (.slice aL i cL) 0 (-1) :: sN :: sS :: sL :: pl.map wblk :: devSeg bd b2 (newDv N) :: [(b42, .row (bytesV zero64) 5 64)] :: [] = L) ?_ ?_
    ·
      rintro F L ⟨b42, hf42, hf0, hf1, hf6, hf7, hf8, hf28, hf29, hf30, hf34, hf41, hf48, rfl⟩
      refine GA.fix (d := 42) hf42 ?_
      refine GA.fix (d := 0) hf0 ?_
      refine GA.fix (d := 1) hf1 ?_
      refine GA.fix (d := 6) hf6 ?_
      refine GA.fix (d := 7) hf7 ?_
      refine GA.fix (d := 8) hf8 ?_
      refine GA.fix (d := 28) hf28 ?_
      refine GA.fix (d := 29) hf29 ?_
      refine GA.fix (d := 30) hf30 ?_
      refine GA.fix (d := 34) hf34 ?_
      refine GA.fix (d := 41) hf41 ?_
      refine GA.fix (d := 48) hf48 ?_
      refine GA.three (i := 7) (j := 15) (l := 21) (by kernel_rfl) rfl rfl rfl (#[true, true, true, true, true, true, true, true, false, false, true, true, true, true, true, false, false, true, true, true, true, false, false, false, false, false, false, false, false, false, false, false]) (#[true, true, true, true, true, true, true, false, false, false, true, true, true, true, true, true, false, true, true, true, true, false, false, false, false, false, false, false, false, false, false, false]) (#[true, true, true, true, true, true, true, false, false, false, true, true, true, true, true, false, false, true, true, true, true, true, false, false, false, false, false, false, false, false, false, false]) (by kernel_rfl) (by kernel_rfl) (by kernel_rfl) ?_ ?_ ?_
      ·
        refine G.makeBytes (l := 64) (c := 64) rfl trivial rfl rfl Try.underlying31 I5 rfl rfl (by decide) ?_
        intro b35
        refine G.nil ?_
        refine ⟨fun _ _ h => mem_one (by simp) h, ?_⟩
        refine GA.less (L' := wSeg b22 (.slice aN i cN) (.slice aS i cS) (.slice aL i cL) 0 (-1) :: sN :: sS :: sL :: pl.map wblk :: devSeg bd b2 (newDv N) :: [(b35, .row (bytesV zero64) 5 64)] :: [(b42, .row (bytesV zero64) 5 64)] :: []) (fun _ h => h.of_flat (List.perm_append_comm_assoc [_] [_, _, _, _, _, _] _).flatten) ?_
        exact key_7_14 _ _ ⟨b35, b42, rfl, rfl, rfl, rfl, rfl, rfl, rfl, rfl, rfl, rfl, rfl, rfl, rfl, rfl⟩
      ·
        refine G.buildSliceL (cs := [.slice (some ⟨b42, 0, none⟩) 64 64]) (zs := [(.slice none 0 0)]) rfl trivial rfl rfl Try.underlying27 I31 rfl (by kernel_rfl) rfl rfl ?_
        intro b43
        refine G.nil ?_
        refine ⟨fun _ _ h => mem_one (by simp) h, ?_⟩
        refine GA.less (L' := wSeg b22 (.slice aN i cN) (.slice aS i cS) (.slice aL i cL) 0 (-1) :: sN :: sS :: sL :: pl.map wblk :: devSeg bd b2 (newDv N) :: [(b42, .row (bytesV zero64) 5 64)] :: [(b43, .row [.slice (some ⟨b42, 0, none⟩) 64 64] 31 1)] :: []) (fun _ h => h.of_flat (List.perm_append_comm_assoc [_] [_, _, _, _, _, _, _] _).flatten) ?_
        exact key_14_15 _ _ ⟨b42, b43, rfl, rfl, rfl, rfl, rfl, rfl, rfl, rfl, rfl, rfl, rfl, rfl, rfl, rfl⟩
      ·
        refine G.buildSliceL (cs := [.bool false]) (zs := [(.bool false)]) rfl trivial rfl rfl Try.underlying28 I4 rfl (by kernel_rfl) rfl rfl ?_
        intro b49
        refine G.nil ?_
        refine ⟨fun _ _ h => mem_one (by simp) h, ?_⟩
        refine GA.less (L' := wSeg b22 (.slice aN i cN) (.slice aS i cS) (.slice aL i cL) 0 (-1) :: sN :: sS :: sL :: pl.map wblk :: devSeg bd b2 (newDv N) :: [(b42, .row (bytesV zero64) 5 64)] :: [(b49, .row [.bool false] 4 1)] :: []) (fun _ h => h.of_flat (List.perm_append_comm_assoc [_] [_, _, _, _, _, _, _] _).flatten) ?_
        exact key_14_21 _ _ ⟨b42, b49, rfl, rfl, rfl, rfl, rfl, rfl, rfl, rfl, rfl, rfl, rfl, rfl, rfl, rfl⟩
    intro key_14
    refine GA.cut 16 (#[true, true, true, true, true, true, true, false, false, false, true, true, true, true, false, false, false, true, true, true, true, true, false, false, false, false, false, false, false, false, false, false]) (fun F L => ∃ (b49 : Nat), F 49 = .slice (some ⟨b49, 0, none⟩) 1 1 ∧ F 0 = .int .i64 (N : Int) ∧ F 1 = .slice a ops.length cap ∧ F 6 = ptr bd ∧ F 7 = ptr b22 ∧ F 8 = .int .i64 (i : Int) ∧ F 28 = ptr b22 ∧ F 29 = ptr b22 ∧ F 30 = ptr b22 ∧ F 34 = .slice aN i cN ∧ F 41 = .slice aS i cS ∧ F 48 = .slice aL i cL ∧ wSeg b22 (.slice aN i cN) (.slice aS i cS) (.slice aL i cL) 0 (-1) :: sN :: sS :: sL :: pl.map wblk :: devSeg bd b2 (newDv N) :: [(b49, .row [.bool false] 4 1)] :: [] = L) ?_ ?_
    ·
      rintro F L ⟨b49, hf49, hf0, hf1, hf6, hf7, hf8, hf28, hf29, hf30, hf34, hf41, hf48, rfl⟩
      refine GA.fix (d := 49) hf49 ?_
      refine GA.fix (d := 0) hf0 ?_
      refine GA.fix (d := 1) hf1 ?_
      refine GA.fix (d := 6) hf6 ?_
      refine GA.fix (d := 7) hf7 ?_
      refine GA.fix (d := 8) hf8 ?_
      refine GA.fix (d := 28) hf28 ?_
      refine GA.fix (d := 29) hf29 ?_
      refine GA.fix (d := 30) hf30 ?_
      refine GA.fix (d := 34) hf34 ?_
      refine GA.fix (d := 41) hf41 ?_
      refine GA.fix (d := 48) hf48 ?_
      refine GA.two (i := 7) (j := 14) (by kernel_rfl) rfl rfl (#[true, true, true, true, true, true, true, true, false, false, true, true, true, true, false, false, false, true, true, true, true, true, false, false, false, false, false, false, false, false, false, false]) (#[true, true, true, true, true, true, true, false, false, false, true, true, true, true, true, false, false, true, true, true, true, true, false, false, false, false, false, false, false, false, false, false]) (by kernel_rfl) (by kernel_rfl) ?_ ?_
      ·
        refine G.makeBytes (l := 64) (c := 64) rfl trivial rfl rfl Try.underlying31 I5 rfl rfl (by decide) ?_
        intro b35
        refine G.nil ?_
        refine ⟨fun _ _ h => mem_one (by simp) h, ?_⟩
        refine GA.less (L' := wSeg b22 (.slice aN i cN) (.slice aS i cS) (.slice aL i cL) 0 (-1) :: sN :: sS :: sL :: pl.map wblk :: devSeg bd b2 (newDv N) :: [(b35, .row (bytesV zero64) 5 64)] :: [(b49, .row [.bool false] 4 1)] :: []) (fun _ h => h.of_flat (List.perm_append_comm_assoc [_] [_, _, _, _, _, _] _).flatten) ?_
        exact key_7_21 _ _ ⟨b35, b49, rfl, rfl, rfl, rfl, rfl, rfl, rfl, rfl, rfl, rfl, rfl, rfl, rfl, rfl⟩
      ·
        refine G.makeBytes (l := 64) (c := 64) rfl trivial rfl rfl Try.underlying31 I5 rfl rfl (by decide) ?_
        intro b42
        refine G.nil ?_
        refine ⟨fun _ _ h => mem_one (by simp) h, ?_⟩
        refine GA.less (L' := wSeg b22 (.slice aN i cN) (.slice aS i cS) (.slice aL i cL) 0 (-1) :: sN :: sS :: sL :: pl.map wblk :: devSeg bd b2 (newDv N) :: [(b42, .row (bytesV zero64) 5 64)] :: [(b49, .row [.bool false] 4 1)] :: []) (fun _ h => h.of_flat (List.perm_append_comm_assoc [_] [_, _, _, _, _, _] _).flatten) ?_
        exact key_14_21 _ _ ⟨b42, b49, rfl, rfl, rfl, rfl, rfl, rfl, rfl, rfl, rfl, rfl, rfl, rfl, rfl, rfl⟩
    intro key_21
    refine GA.three (i := 7) (j := 14) (l := 21) (by kernel_rfl) rfl rfl rfl (#[true, true, true, true, true, true, true, true, false, false, true, true, true, true, false, false, false, true, true, true, true, false, false, false, false, false, false, false, false, false, false, false]) (#[true, true, true, true, true, true, true, false, false, false, true, true, true, true, true, false, false, true, true, true, true, false, false, false, false, false, false, false, false, false, false, false]) (#[true, true, true, true, true, true, true, false, false, false, true, true, true, true, false, false, false, true, true, true, true, true, false, false, false, false, false, false, false, false, false, false]) (by kernel_rfl) (by kernel_rfl) (by kernel_rfl) ?_ ?_ ?_
    ·
      refine G.makeBytes (l := 64) (c := 64) rfl trivial rfl rfl Try.underlying31 I5 rfl rfl (by decide) ?_
      intro b35
      refine G.nil ?_
      refine ⟨fun _ _ h => mem_one (by simp) h, ?_⟩
      refine GA.less (L' := wSeg b22 (.slice aN i cN) (.slice aS i cS) (.slice aL i cL) 0 (-1) :: sN :: sS :: sL :: pl.map wblk :: devSeg bd b2 (newDv N) :: [(b35, .row (bytesV zero64) 5 64)] :: []) (fun _ h => h.of_flat (List.perm_append_comm_assoc [_] [_, _, _, _, _, _] _).flatten) ?_
      exact key_7 _ _ ⟨b35, rfl, rfl, rfl, rfl, rfl, rfl, rfl, rfl, rfl, rfl, rfl, rfl, rfl⟩
    ·
      refine G.makeBytes (l := 64) (c := 64) rfl trivial rfl rfl Try.underlying31 I5 rfl rfl (by decide) ?_
      intro b42
      refine G.nil ?_
      refine ⟨fun _ _ h => mem_one (by simp) h, ?_⟩
      refine GA.less (L' := wSeg b22 (.slice aN i cN) (.slice aS i cS) (.slice aL i cL) 0 (-1) :: sN :: sS :: sL :: pl.map wblk :: devSeg bd b2 (newDv N) :: [(b42, .row (bytesV zero64) 5 64)] :: []) (fun _ h => h.of_flat (List.perm_append_comm_assoc [_] [_, _, _, _, _, _] _).flatten) ?_
      exact key_14 _ _ ⟨b42, rfl, rfl, rfl, rfl, rfl, rfl, rfl, rfl, rfl, rfl, rfl, rfl, rfl⟩
    ·
      refine G.buildSliceL (cs := [.bool false]) (zs := [(.bool false)]) rfl trivial rfl rfl Try.underlying28 I4 rfl (by kernel_rfl) rfl rfl ?_
      intro b49
      refine G.nil ?_
      refine ⟨fun _ _ h => mem_one (by simp) h, ?_⟩
      refine GA.less (L' := wSeg b22 (.slice aN i cN) (.slice aS i cS) (.slice aL i cL) 0 (-1) :: sN :: sS :: sL :: pl.map wblk :: devSeg bd b2 (newDv N) :: [(b49, .row [.bool false] 4 1)] :: []) (fun _ h => h.of_flat (List.perm_append_comm_assoc [_] [_, _, _, _, _, _] _).flatten) ?_
      exact key_21 _ _ ⟨b49, rfl, rfl, rfl, rfl, rfl, rfl, rfl, rfl, rfl, rfl, rfl, rfl, rfl⟩
  · intro hc1
    have hiN : i = N := by omega
    obtain ⟨bn, cn, kn, e1, rfl, _, _⟩ := hoN.block (by omega)
    obtain ⟨bS, cS2, kS, e2, rfl, _, _⟩ := hoS.block (by omega)
    obtain ⟨bL, cL2, kL, e3, rfl, _, _⟩ := hoL.block (by omega)
    cases e1
    cases e2
    cases e3
    have hrep : ∀ q : List WB, (∀ e ∈ q, e ∈ pl) → q.length = i → q.map (·.2.2.2) = List.replicate i zero64 := fun q hq hql => List.eq_replicate_iff.2 ⟨by simpa using hql, fun x hx => by obtain ⟨e, he, rfl⟩ := List.mem_map.1 hx; exact hz e (hq e he)⟩
    have hw0 : WIs b22 (newDv N).l (newDv N).calls (-1) (wSeg b22 (.slice (some ⟨bn, 0, none⟩) i cN) (.slice (some ⟨bS, 0, none⟩) i cS) (.slice (some ⟨bL, 0, none⟩) i cL) 0 (-1)) [(bn, .row (ns.map wslot) 31 kn)] [(bS, .row (ss.map wslot) 31 kS)] [(bL, .row (List.replicate i (.bool false)) 4 kL)] (pl.map wblk) := ⟨ns, ss, pl, bn, cN, kn, bS, cS, kS, bL, cL, kL, by simp [newDv, hiN], rfl, rfl, by simp [newDv, zeroSec, hiN], rfl, hnp, hsp, by rw [hrep ns hnp hnl]; simp [newDv, zeroSec, hiN], by rw [hrep ss hsp hsl]; simp [newDv, zeroSec, hiN]⟩
    refine C.exit ?_
    refine C.seq ?_
    refine C.seq ?_
    refine C.region ?_
    refine G.assignI rfl trivial rfl rfl rfl ?_
    refine G.nil ?_
    refine C.block ?_
    refine C.loop (fun m F D' L' => ∃ (k : Nat) (d : Dv) (bd b2 : Nat) (f : Int) (W sN sS sL P : Seg), m = ops.length - k + 0 ∧ k ≤ ops.length ∧ k ≤ 50 ∧ d.ok ∧ d.l.length = N ∧ Lst d.l ∧ FR d f ∧ WIs b22 d.l d.calls f W sN sS sL P ∧ F 0 = .int .i64 (N : Int) ∧ F 1 = .slice a ops.length cap ∧ F 6 = ptr bd ∧ F 7 = ptr b22 ∧ F 9 = .int .i64 (k : Int) ∧ D' = [] ∧ W :: sN :: sS :: sL :: P :: devSeg bd b2 d :: [] = L') ⟨_, ⟨0, newDv N, bd, b2, -1, _, _, _, _, _, rfl, Nat.zero_le _, Nat.zero_le _, newDv_ok (by omega), by simp [newDv], Lst.new N, .inr (.inr ⟨rfl, rfl, rfl⟩), hw0, rfl, rfl, rfl, rfl, rfl, rfl, rfl⟩⟩ ?_
    rintro m F D' L' ⟨k, d, bd, b2, f, W, sN, sS, sL, P, rfl, hk, hk50, hd, hdl, hlst, hFR, hw, h0, h1', h6, h7, h9, rfl, rfl⟩
    refine C.fix (d := 0) h0 ?_
    refine C.fix (d := 1) h1' ?_
    refine C.fix (d := 6) h6 ?_
    refine C.fix (d := 7) h7 ?_
    refine C.fix (d := 9) h9 ?_
    refine C.seq ?_
    refine C.seq ?_
    refine C.region ?_
    refine G.moveI rfl trivial rfl rfl rfl ?_
    refine G.moveS rfl trivial rfl rfl rfl ?_
    refine G.lenSlice rfl trivial rfl rfl Try.underlying22 rfl ?_
    refine G.bin rfl trivial rfl rfl rfl rfl rfl ?_
    refine G.moveB rfl trivial rfl rfl rfl ?_
    refine G.fork (t := 61) _ rfl ?_ ?_
    · intro hg61
      refine G.moveI rfl ⟨_, rfl, rfl, rfl⟩ rfl rfl rfl ?_
      refine G.bin rfl ⟨_, rfl, rfl, rfl⟩ rfl rfl rfl rfl rfl ?_
      first | refine G.pickT rfl trivial rfl rfl rfl rfl ?_ | refine G.pickF rfl trivial rfl rfl rfl rfl ?_
      refine G.nil ?_
      refine C.cond _ rfl ?_ ?_
      · intro hc2
        have hlt : k < ops.length := by have h := hg61; omega
        obtain ⟨p, o, rfl, _⟩ := (hr []).some_ (by rw [chunk_length (k := 4) (fun _ _ => rfl)]; omega)
        refine C.skip ?_
        refine C.seq ?_
        refine C.block ?_
        refine C.seq ?_
        refine C.region ?_
        refine G.moveS rfl trivial rfl rfl rfl ?_
        refine G.moveI rfl trivial rfl rfl rfl ?_
        refine G.indexAddr rfl trivial rfl rfl Try.underlying22 I33 rfl rfl (by omega) ?_
        obtain ⟨hbc, hbm, hkc, hkm, hno, hbr, hkr⟩ := hwf _ (List.getElem_mem hlt)
        refine G.loadAgg (dopC ops[k]) rfl trivial rfl rfl Try.underlying33 rfl I33 rfl rfl (cellD hr hlt) ?_
        generalize ops[k] = op at hbc hbm hkc hkm hno hbr hkr ⊢
        obtain ⟨kd, no, oa, oc, l0, ka, kc, ks⟩ := op
        simp only at hbc hbm hkc hkm hno hbr hkr
        refine G.allocC (cs := [(.int .i64 0), (.int .i64 0), (.slice none 0 0), (.slice none 0 0)]) rfl trivial rfl rfl I33 rfl ?_
        intro b10
        refine G.stRow .here rfl trivial rfl I33 rfl rfl rfl (by rfl) (dopC_ok _) ?_
        refine G.nil ?_
        refine C.seq ?_
        refine C.region ?_
        refine G.fieldAddr rfl trivial rfl rfl Try.underlying33 rfl I31 rfl rfl ?_
        refine G.loadAt (by first | exact .here | exact .next .here | exact .next (.next .here) | exact .next (.next (.next .here)) | exact .next (.next (.next (.next .here))) | exact .next (.next (.next (.next (.next .here)))) | exact .next (.next (.next (.next (.next (.next .here))))) | exact .next (.next (.next (.next (.next (.next (.next .here)))))) | exact .in1 | exact .next .in1 | exact .next (.next .in1) | exact .next (.next (.next .in1)) | exact .next (.next (.next (.next .in1))) | exact .in2 | exact .next .in2 | exact .next (.next .in2) | exact .next (.next (.next .in2)) | exact .next (.next (.next (.next .in2))) | exact .app .here | exact .app (.next .here) | exact .app (.next (.next .here)) | exact .app (.next (.next (.next .here))) | exact .app (.next (.next (.next (.next .here)))) | exact .app (.next (.next (.next (.next (.next .here))))) | exact .app (.next (.next (.next (.next (.next (.next .here)))))) | exact .app (.next (.next (.next (.next (.next (.next (.next .here))))))) | exact .app .in1 | exact .app .in2 | exact .app (.next .in1) | exact .next (.app .in1) | exact .next (.next (.app .in1)) | exact .next (.app .here) | exact .next (.next (.app .here)) | exact .next (.next (.next (.app .here))) | exact .next (.next (.next (.next (.app .here))))) rfl trivial rfl rfl Try.underlying31 rfl rfl (by rfl) ?_
        refine G.call E11 rfl rfl trivial rfl rfl (shortD_spec W0 _ oa oc l0 70 rfl hbc) rfl ?_
        rintro e L2 ⟨rfl, rfl⟩
        refine G.fieldAddr rfl trivial rfl rfl Try.underlying33 rfl I31 rfl rfl ?_
        refine G.store (v := .slice oa (l0.take 70).length oc) .here rfl trivial rfl I31 rfl rfl rfl (by show 2 < 4; decide) _ rfl ?_
        obtain ⟨l, hl⟩ : ∃ l, l = l0.take 70 := ⟨_, rfl⟩
        have hl70 : l.length ≤ 70 := by rw [hl, List.length_take]; exact Nat.min_le_left _ _
        have hlr : ∀ L, Rd W0 L oa (bytesV l) := fun L => by rw [hl, ← bytesV_take]; exact (hbr L).take
        refine G.less (L' := W :: sN :: sS :: sL :: P :: devSeg bd b2 d :: [(b10, .row (dopC ⟨kd, no, oa, oc, l, ka, kc, ks⟩) 33 4)] :: []) (fun _ h => (h.of_flat (List.perm_append_comm_assoc [_] [W, sN, sS, sL, P, devSeg bd b2 d] []).flatten).of_flat (by rw [hl]; exact .refl _)) ?_
        refine G.nil ?_
        refine C.cut (fun F D' L' => ∃ (d : Dv) (bd b2 : Nat) (f : Int) (W sN sS sL P : Seg), d.ok ∧ d.l.length = N ∧ Lst d.l ∧ FR d f ∧ WIs b22 d.l d.calls f W sN sS sL P ∧ F 0 = .int .i64 (N : Int) ∧ F 1 = .slice (some ⟨p, o, none⟩) ops.length cap ∧ F 6 = ptr bd ∧ F 7 = ptr b22 ∧ F 9 = .int .i64 (k : Int) ∧ D' = [] ∧ W :: sN :: sS :: sL :: P :: devSeg bd b2 d :: [(b10, .row (dopC ⟨kd, no, oa, oc, l, ka, kc, ks⟩) 33 4)] :: [] = L') ?_ ?_
        ·
          refine C.seq ?_
          refine C.region ?_
          refine G.fieldAddr rfl trivial rfl rfl Try.underlying33 rfl I3 rfl rfl ?_
          refine G.loadAt (by first | exact .here | exact .next .here | exact .next (.next .here) | exact .next (.next (.next .here)) | exact .next (.next (.next (.next .here))) | exact .next (.next (.next (.next (.next .here)))) | exact .next (.next (.next (.next (.next (.next .here))))) | exact .next (.next (.next (.next (.next (.next (.next .here)))))) | exact .in1 | exact .next .in1 | exact .next (.next .in1) | exact .next (.next (.next .in1)) | exact .next (.next (.next (.next .in1))) | exact .in2 | exact .next .in2 | exact .next (.next .in2) | exact .next (.next (.next .in2)) | exact .next (.next (.next (.next .in2))) | exact .app .here | exact .app (.next .here) | exact .app (.next (.next .here)) | exact .app (.next (.next (.next .here))) | exact .app (.next (.next (.next (.next .here)))) | exact .app (.next (.next (.next (.next (.next .here))))) | exact .app (.next (.next (.next (.next (.next (.next .here)))))) | exact .app (.next (.next (.next (.next (.next (.next (.next .here))))))) | exact .app .in1 | exact .app .in2 | exact .app (.next .in1) | exact .next (.app .in1) | exact .next (.next (.app .in1)) | exact .next (.app .here) | exact .next (.next (.app .here)) | exact .next (.next (.next (.app .here))) | exact .next (.next (.next (.next (.app .here))))) rfl trivial rfl rfl Try.underlying3 rfl rfl (by rfl) ?_
          refine G.nil ?_
          refine C.block ?_
          refine C.seq ?_
          refine C.region ?_
          refine G.bin rfl trivial rfl rfl rfl rfl rfl ?_
          refine G.assignB rfl trivial rfl rfl rfl ?_
          refine G.nil ?_
          refine C.cond _ rfl ?_ ?_
          · intro hc3
            refine C.seq ?_
            refine C.region ?_
            refine G.assignI rfl trivial rfl rfl rfl ?_
            refine G.nil ?_
            refine C.seq ?_
            refine C.block ?_
            refine C.seq ?_
            refine C.region ?_
            refine G.moveP rfl trivial rfl rfl rfl ?_
            refine G.call E12 rfl rfl trivial rfl rfl (wdead_is W0 b22 hw _) rfl ?_
            rintro e L2 ⟨rfl, rfl⟩
            refine G.assignB rfl trivial rfl rfl rfl ?_
            refine G.nil ?_
            refine C.cond _ rfl ?_ ?_
            · intro hc4
              refine C.region ?_
              refine G.assignI rfl trivial rfl rfl rfl ?_
              refine G.nil ?_
              refine C.seq ?_
              refine C.seq ?_
              refine C.region ?_
              refine G.moveP rfl trivial rfl rfl rfl ?_
              refine G.fieldAddr rfl trivial rfl rfl Try.underlying33 rfl I3 rfl rfl ?_
              refine G.loadAt (by first | exact .here | exact .next .here | exact .next (.next .here) | exact .next (.next (.next .here)) | exact .next (.next (.next (.next .here))) | exact .next (.next (.next (.next (.next .here)))) | exact .next (.next (.next (.next (.next (.next .here))))) | exact .next (.next (.next (.next (.next (.next (.next .here)))))) | exact .in1 | exact .next .in1 | exact .next (.next .in1) | exact .next (.next (.next .in1)) | exact .next (.next (.next (.next .in1))) | exact .in2 | exact .next .in2 | exact .next (.next .in2) | exact .next (.next (.next .in2)) | exact .next (.next (.next (.next .in2))) | exact .app .here | exact .app (.next .here) | exact .app (.next (.next .here)) | exact .app (.next (.next (.next .here))) | exact .app (.next (.next (.next (.next .here)))) | exact .app (.next (.next (.next (.next (.next .here))))) | exact .app (.next (.next (.next (.next (.next (.next .here)))))) | exact .app (.next (.next (.next (.next (.next (.next (.next .here))))))) | exact .app .in1 | exact .app .in2 | exact .app (.next .in1) | exact .next (.app .in1) | exact .next (.next (.app .in1)) | exact .next (.app .here) | exact .next (.next (.app .here)) | exact .next (.next (.next (.app .here))) | exact .next (.next (.next (.next (.app .here))))) rfl trivial rfl rfl Try.underlying3 rfl rfl (by rfl) ?_
              refine G.fieldAddr rfl trivial rfl rfl Try.underlying33 rfl I31 rfl rfl ?_
              refine G.loadAt (by first | exact .here | exact .next .here | exact .next (.next .here) | exact .next (.next (.next .here)) | exact .next (.next (.next (.next .here))) | exact .next (.next (.next (.next (.next .here)))) | exact .next (.next (.next (.next (.next (.next .here))))) | exact .next (.next (.next (.next (.next (.next (.next .here)))))) | exact .in1 | exact .next .in1 | exact .next (.next .in1) | exact .next (.next (.next .in1)) | exact .next (.next (.next (.next .in1))) | exact .in2 | exact .next .in2 | exact .next (.next .in2) | exact .next (.next (.next .in2)) | exact .next (.next (.next (.next .in2))) | exact .app .here | exact .app (.next .here) | exact .app (.next (.next .here)) | exact .app (.next (.next (.next .here))) | exact .app (.next (.next (.next (.next .here)))) | exact .app (.next (.next (.next (.next (.next .here))))) | exact .app (.next (.next (.next (.next (.next (.next .here)))))) | exact .app (.next (.next (.next (.next (.next (.next (.next .here))))))) | exact .app .in1 | exact .app .in2 | exact .app (.next .in1) | exact .next (.app .in1) | exact .next (.next (.app .in1)) | exact .next (.app .here) | exact .next (.next (.app .here)) | exact .next (.next (.next (.app .here))) | exact .next (.next (.next (.next (.app .here))))) rfl trivial rfl rfl Try.underlying31 rfl rfl (by rfl) ?_
              refine G.call E13 rfl rfl trivial rfl rfl (write_dead W0 [W, sN, sS, sL, P] _ bd b2 d (by rw [hFR.isDead]; exact decide_eq_true hc4) no oa l.length oc) rfl ?_
              rintro e L2 ⟨rfl, rfl⟩
              refine G.moveI rfl trivial rfl rfl rfl ?_
              refine G.bin rfl trivial rfl rfl rfl rfl rfl ?_
              refine G.nil ?_
              refine C.no rfl (by simp) ?_
              refine C.skip ?_
              refine C.seq ?_
              refine C.region ?_
              refine G.moveI rfl trivial rfl rfl rfl ?_
              refine G.bin rfl trivial rfl rfl rfl rfl rfl ?_
              refine G.nil ?_
              refine C.condF rfl ?_
              refine C.skip ?_
              exact ⟨d, bd, b2, f, W, sN, sS, sL, P, hd, hdl, hlst, hFR, hw, rfl, rfl, rfl, rfl, rfl, rfl, rfl⟩
            · intro hc4
              have hdd : d.isDead = false := by rw [hFR.isDead]; exact decide_eq_false hc4
              refine C.seq ?_
              refine C.region ?_
              refine G.fieldAddr rfl trivial rfl rfl Try.underlying33 rfl I3 rfl rfl ?_
              refine G.loadAt (by first | exact .here | exact .next .here | exact .next (.next .here) | exact .next (.next (.next .here)) | exact .next (.next (.next (.next .here))) | exact .next (.next (.next (.next (.next .here)))) | exact .next (.next (.next (.next (.next (.next .here))))) | exact .next (.next (.next (.next (.next (.next (.next .here)))))) | exact .in1 | exact .next .in1 | exact .next (.next .in1) | exact .next (.next (.next .in1)) | exact .next (.next (.next (.next .in1))) | exact .in2 | exact .next .in2 | exact .next (.next .in2) | exact .next (.next (.next .in2)) | exact .next (.next (.next (.next .in2))) | exact .app .here | exact .app (.next .here) | exact .app (.next (.next .here)) | exact .app (.next (.next (.next .here))) | exact .app (.next (.next (.next (.next .here)))) | exact .app (.next (.next (.next (.next (.next .here))))) | exact .app (.next (.next (.next (.next (.next (.next .here)))))) | exact .app (.next (.next (.next (.next (.next (.next (.next .here))))))) | exact .app .in1 | exact .app .in2 | exact .app (.next .in1) | exact .next (.app .in1) | exact .next (.next (.app .in1)) | exact .next (.app .here) | exact .next (.next (.app .here)) | exact .next (.next (.next (.app .here))) | exact .next (.next (.next (.next (.app .here))))) rfl trivial rfl rfl Try.underlying3 rfl rfl (by rfl) ?_
              refine G.bin rfl trivial rfl rfl rfl rfl rfl ?_
              refine G.moveB rfl trivial rfl rfl rfl ?_
              refine G.fork (t := 99) _ rfl ?_ ?_
              · intro hg99
                refine G.skip rfl rfl rfl rfl rfl rfl ?_
                refine G.skip rfl rfl rfl rfl rfl rfl ?_
                refine G.skip rfl rfl rfl rfl rfl rfl ?_
                refine G.skip rfl rfl rfl rfl rfl rfl ?_
                first | refine G.pickT rfl trivial rfl rfl rfl rfl ?_ | refine G.pickF rfl trivial rfl rfl rfl rfl ?_
                refine G.assignB rfl trivial rfl rfl rfl ?_
                refine G.nil ?_
                refine C.condT rfl ?_
                refine C.region ?_
                refine G.assignI rfl trivial rfl rfl rfl ?_
                refine G.nil ?_
                refine C.seq ?_
                refine C.seq ?_
                refine C.region ?_
                refine G.moveP rfl trivial rfl rfl rfl ?_
                refine G.fieldAddr rfl trivial rfl rfl Try.underlying33 rfl I3 rfl rfl ?_
                refine G.loadAt (by first | exact .here | exact .next .here | exact .next (.next .here) | exact .next (.next (.next .here)) | exact .next (.next (.next (.next .here))) | exact .next (.next (.next (.next (.next .here)))) | exact .next (.next (.next (.next (.next (.next .here))))) | exact .next (.next (.next (.next (.next (.next (.next .here)))))) | exact .in1 | exact .next .in1 | exact .next (.next .in1) | exact .next (.next (.next .in1)) | exact .next (.next (.next (.next .in1))) | exact .in2 | exact .next .in2 | exact .next (.next .in2) | exact .next (.next (.next .in2)) | exact .next (.next (.next (.next .in2))) | exact .app .here | exact .app (.next .here) | exact .app (.next (.next .here)) | exact .app (.next (.next (.next .here))) | exact .app (.next (.next (.next (.next .here)))) | exact .app (.next (.next (.next (.next (.next .here))))) | exact .app (.next (.next (.next (.next (.next (.next .here)))))) | exact .app (.next (.next (.next (.next (.next (.next (.next .here))))))) | exact .app .in1 | exact .app .in2 | exact .app (.next .in1) | exact .next (.app .in1) | exact .next (.next (.app .in1)) | exact .next (.app .here) | exact .next (.next (.app .here)) | exact .next (.next (.next (.app .here))) | exact .next (.next (.next (.next (.app .here))))) rfl trivial rfl rfl Try.underlying3 rfl rfl (by rfl) ?_
                refine G.fieldAddr rfl trivial rfl rfl Try.underlying33 rfl I31 rfl rfl ?_
                refine G.loadAt (by first | exact .here | exact .next .here | exact .next (.next .here) | exact .next (.next (.next .here)) | exact .next (.next (.next (.next .here))) | exact .next (.next (.next (.next (.next .here)))) | exact .next (.next (.next (.next (.next (.next .here))))) | exact .next (.next (.next (.next (.next (.next (.next .here)))))) | exact .in1 | exact .next .in1 | exact .next (.next .in1) | exact .next (.next (.next .in1)) | exact .next (.next (.next (.next .in1))) | exact .in2 | exact .next .in2 | exact .next (.next .in2) | exact .next (.next (.next .in2)) | exact .next (.next (.next (.next .in2))) | exact .app .here | exact .app (.next .here) | exact .app (.next (.next .here)) | exact .app (.next (.next (.next .here))) | exact .app (.next (.next (.next (.next .here)))) | exact .app (.next (.next (.next (.next (.next .here))))) | exact .app (.next (.next (.next (.next (.next (.next .here)))))) | exact .app (.next (.next (.next (.next (.next (.next (.next .here))))))) | exact .app .in1 | exact .app .in2 | exact .app (.next .in1) | exact .next (.app .in1) | exact .next (.next (.app .in1)) | exact .next (.app .here) | exact .next (.next (.app .here)) | exact .next (.next (.next (.app .here))) | exact .next (.next (.next (.next (.app .here))))) rfl trivial rfl rfl Try.underlying31 rfl rfl (by rfl) ?_
                refine G.call E13 rfl rfl trivial rfl rfl (write_out W0 [W, sN, sS, sL, P] _ bd b2 d hdd no (by have h : no < 0 := hg99; omega) oa l.length oc) rfl ?_
                rintro e L2 ⟨rfl, rfl⟩
                refine G.moveI rfl trivial rfl rfl rfl ?_
                refine G.bin rfl trivial rfl rfl rfl rfl rfl ?_
                refine G.nil ?_
                refine C.no rfl (by simp) ?_
                refine C.skip ?_
                refine C.seq ?_
                refine C.region ?_
                refine G.moveI rfl trivial rfl rfl rfl ?_
                refine G.bin rfl trivial rfl rfl rfl rfl rfl ?_
                refine G.nil ?_
                refine C.condF rfl ?_
                refine C.skip ?_
                exact ⟨d, bd, b2, f, W, sN, sS, sL, P, hd, hdl, hlst, hFR, hw, rfl, rfl, rfl, rfl, rfl, rfl, rfl⟩
              · intro hg99
                refine G.fieldAddr rfl ⟨_, rfl, rfl, rfl⟩ rfl rfl Try.underlying33 rfl I3 rfl rfl ?_
                refine G.loadAt (by first | exact .here | exact .next .here | exact .next (.next .here) | exact .next (.next (.next .here)) | exact .next (.next (.next (.next .here))) | exact .next (.next (.next (.next (.next .here)))) | exact .next (.next (.next (.next (.next (.next .here))))) | exact .next (.next (.next (.next (.next (.next (.next .here)))))) | exact .in1 | exact .next .in1 | exact .next (.next .in1) | exact .next (.next (.next .in1)) | exact .next (.next (.next (.next .in1))) | exact .in2 | exact .next .in2 | exact .next (.next .in2) | exact .next (.next (.next .in2)) | exact .next (.next (.next (.next .in2))) | exact .app .here | exact .app (.next .here) | exact .app (.next (.next .here)) | exact .app (.next (.next (.next .here))) | exact .app (.next (.next (.next (.next .here)))) | exact .app (.next (.next (.next (.next (.next .here))))) | exact .app (.next (.next (.next (.next (.next (.next .here)))))) | exact .app (.next (.next (.next (.next (.next (.next (.next .here))))))) | exact .app .in1 | exact .app .in2 | exact .app (.next .in1) | exact .next (.app .in1) | exact .next (.next (.app .in1)) | exact .next (.app .here) | exact .next (.next (.app .here)) | exact .next (.next (.next (.app .here))) | exact .next (.next (.next (.next (.app .here))))) rfl ⟨_, rfl, rfl, rfl⟩ rfl rfl Try.underlying3 rfl rfl (by rfl) ?_
                refine G.moveI rfl ⟨_, rfl, rfl, rfl⟩ rfl rfl rfl ?_
                refine G.bin rfl ⟨_, rfl, rfl, rfl⟩ rfl rfl rfl rfl rfl ?_
                first | refine G.pickT rfl trivial rfl rfl rfl rfl ?_ | refine G.pickF rfl trivial rfl rfl rfl rfl ?_
                refine G.assignB rfl trivial rfl rfl rfl ?_
                refine G.nil ?_
                refine C.cond _ rfl ?_ ?_
                · intro hc5
                  refine C.region ?_
                  refine G.assignI rfl trivial rfl rfl rfl ?_
                  refine G.nil ?_
                  refine C.seq ?_
                  refine C.seq ?_
                  refine C.region ?_
                  refine G.moveP rfl trivial rfl rfl rfl ?_
                  refine G.fieldAddr rfl trivial rfl rfl Try.underlying33 rfl I3 rfl rfl ?_
                  refine G.loadAt (by first | exact .here | exact .next .here | exact .next (.next .here) | exact .next (.next (.next .here)) | exact .next (.next (.next (.next .here))) | exact .next (.next (.next (.next (.next .here)))) | exact .next (.next (.next (.next (.next (.next .here))))) | exact .next (.next (.next (.next (.next (.next (.next .here)))))) | exact .in1 | exact .next .in1 | exact .next (.next .in1) | exact .next (.next (.next .in1)) | exact .next (.next (.next (.next .in1))) | exact .in2 | exact .next .in2 | exact .next (.next .in2) | exact .next (.next (.next .in2)) | exact .next (.next (.next (.next .in2))) | exact .app .here | exact .app (.next .here) | exact .app (.next (.next .here)) | exact .app (.next (.next (.next .here))) | exact .app (.next (.next (.next (.next .here)))) | exact .app (.next (.next (.next (.next (.next .here))))) | exact .app (.next (.next (.next (.next (.next (.next .here)))))) | exact .app (.next (.next (.next (.next (.next (.next (.next .here))))))) | exact .app .in1 | exact .app .in2 | exact .app (.next .in1) | exact .next (.app .in1) | exact .next (.next (.app .in1)) | exact .next (.app .here) | exact .next (.next (.app .here)) | exact .next (.next (.next (.app .here))) | exact .next (.next (.next (.next (.app .here))))) rfl trivial rfl rfl Try.underlying3 rfl rfl (by rfl) ?_
                  refine G.fieldAddr rfl trivial rfl rfl Try.underlying33 rfl I31 rfl rfl ?_
                  refine G.loadAt (by first | exact .here | exact .next .here | exact .next (.next .here) | exact .next (.next (.next .here)) | exact .next (.next (.next (.next .here))) | exact .next (.next (.next (.next (.next .here)))) | exact .next (.next (.next (.next (.next (.next .here))))) | exact .next (.next (.next (.next (.next (.next (.next .here)))))) | exact .in1 | exact .next .in1 | exact .next (.next .in1) | exact .next (.next (.next .in1)) | exact .next (.next (.next (.next .in1))) | exact .in2 | exact .next .in2 | exact .next (.next .in2) | exact .next (.next (.next .in2)) | exact .next (.next (.next (.next .in2))) | exact .app .here | exact .app (.next .here) | exact .app (.next (.next .here)) | exact .app (.next (.next (.next .here))) | exact .app (.next (.next (.next (.next .here)))) | exact .app (.next (.next (.next (.next (.next .here))))) | exact .app (.next (.next (.next (.next (.next (.next .here)))))) | exact .app (.next (.next (.next (.next (.next (.next (.next .here))))))) | exact .app .in1 | exact .app .in2 | exact .app (.next .in1) | exact .next (.app .in1) | exact .next (.next (.app .in1)) | exact .next (.app .here) | exact .next (.next (.app .here)) | exact .next (.next (.next (.app .here))) | exact .next (.next (.next (.next (.app .here))))) rfl trivial rfl rfl Try.underlying31 rfl rfl (by rfl) ?_
                  refine G.call E13 rfl rfl trivial rfl rfl (write_out W0 [W, sN, sS, sL, P] _ bd b2 d hdd no (by have h : no ≥ (N : Int) := hc5; omega) oa l.length oc) rfl ?_
                  rintro e L2 ⟨rfl, rfl⟩
                  refine G.moveI rfl trivial rfl rfl rfl ?_
                  refine G.bin rfl trivial rfl rfl rfl rfl rfl ?_
                  refine G.nil ?_
                  refine C.no rfl (by simp) ?_
                  refine C.skip ?_
                  refine C.seq ?_
                  refine C.region ?_
                  refine G.moveI rfl trivial rfl rfl rfl ?_
                  refine G.bin rfl trivial rfl rfl rfl rfl rfl ?_
                  refine G.nil ?_
                  refine C.condF rfl ?_
                  refine C.skip ?_
                  exact ⟨d, bd, b2, f, W, sN, sS, sL, P, hd, hdl, hlst, hFR, hw, rfl, rfl, rfl, rfl, rfl, rfl, rfl⟩
                · intro hc5
                  have h1 : ¬ no < 0 := hg99
                  have h2 : ¬ no ≥ (N : Int) := hc5
                  obtain ⟨j, rfl⟩ : ∃ j : Nat, no = j := ⟨no.toNat, by omega⟩
                  have hj : j < d.l.length := by omega
                  refine C.seq ?_
                  refine C.region ?_
                  refine G.fieldAddr rfl trivial rfl rfl Try.underlying33 rfl I31 rfl rfl ?_
                  refine G.loadAt (by first | exact .here | exact .next .here | exact .next (.next .here) | exact .next (.next (.next .here)) | exact .next (.next (.next (.next .here))) | exact .next (.next (.next (.next (.next .here)))) | exact .next (.next (.next (.next (.next (.next .here))))) | exact .next (.next (.next (.next (.next (.next (.next .here)))))) | exact .in1 | exact .next .in1 | exact .next (.next .in1) | exact .next (.next (.next .in1)) | exact .next (.next (.next (.next .in1))) | exact .in2 | exact .next .in2 | exact .next (.next .in2) | exact .next (.next (.next .in2)) | exact .next (.next (.next (.next .in2))) | exact .app .here | exact .app (.next .here) | exact .app (.next (.next .here)) | exact .app (.next (.next (.next .here))) | exact .app (.next (.next (.next (.next .here)))) | exact .app (.next (.next (.next (.next (.next .here))))) | exact .app (.next (.next (.next (.next (.next (.next .here)))))) | exact .app (.next (.next (.next (.next (.next (.next (.next .here))))))) | exact .app .in1 | exact .app .in2 | exact .app (.next .in1) | exact .next (.app .in1) | exact .next (.next (.app .in1)) | exact .next (.app .here) | exact .next (.next (.app .here)) | exact .next (.next (.next (.app .here))) | exact .next (.next (.next (.next (.app .here))))) rfl trivial rfl rfl Try.underlying31 rfl rfl (by rfl) ?_
                  refine G.lenSlice rfl trivial rfl rfl Try.underlying31 rfl ?_
                  refine G.bin rfl trivial rfl rfl rfl rfl rfl ?_
                  refine G.assignB rfl trivial rfl rfl rfl ?_
                  refine G.nil ?_
                  refine C.cond _ rfl ?_ ?_
                  · intro hc6
                    refine C.region ?_
                    refine G.assignI rfl trivial rfl rfl rfl ?_
                    refine G.nil ?_
                    refine C.seq ?_
                    refine C.seq ?_
                    refine C.region ?_
                    refine G.moveP rfl trivial rfl rfl rfl ?_
                    refine G.fieldAddr rfl trivial rfl rfl Try.underlying33 rfl I3 rfl rfl ?_
                    refine G.loadAt (by first | exact .here | exact .next .here | exact .next (.next .here) | exact .next (.next (.next .here)) | exact .next (.next (.next (.next .here))) | exact .next (.next (.next (.next (.next .here)))) | exact .next (.next (.next (.next (.next (.next .here))))) | exact .next (.next (.next (.next (.next (.next (.next .here)))))) | exact .in1 | exact .next .in1 | exact .next (.next .in1) | exact .next (.next (.next .in1)) | exact .next (.next (.next (.next .in1))) | exact .in2 | exact .next .in2 | exact .next (.next .in2) | exact .next (.next (.next .in2)) | exact .next (.next (.next (.next .in2))) | exact .app .here | exact .app (.next .here) | exact .app (.next (.next .here)) | exact .app (.next (.next (.next .here))) | exact .app (.next (.next (.next (.next .here)))) | exact .app (.next (.next (.next (.next (.next .here))))) | exact .app (.next (.next (.next (.next (.next (.next .here)))))) | exact .app (.next (.next (.next (.next (.next (.next (.next .here))))))) | exact .app .in1 | exact .app .in2 | exact .app (.next .in1) | exact .next (.app .in1) | exact .next (.next (.app .in1)) | exact .next (.app .here) | exact .next (.next (.app .here)) | exact .next (.next (.next (.app .here))) | exact .next (.next (.next (.next (.app .here))))) rfl trivial rfl rfl Try.underlying3 rfl rfl (by rfl) ?_
                    refine G.fieldAddr rfl trivial rfl rfl Try.underlying33 rfl I31 rfl rfl ?_
                    refine G.loadAt (by first | exact .here | exact .next .here | exact .next (.next .here) | exact .next (.next (.next .here)) | exact .next (.next (.next (.next .here))) | exact .next (.next (.next (.next (.next .here)))) | exact .next (.next (.next (.next (.next (.next .here))))) | exact .next (.next (.next (.next (.next (.next (.next .here)))))) | exact .in1 | exact .next .in1 | exact .next (.next .in1) | exact .next (.next (.next .in1)) | exact .next (.next (.next (.next .in1))) | exact .in2 | exact .next .in2 | exact .next (.next .in2) | exact .next (.next (.next .in2)) | exact .next (.next (.next (.next .in2))) | exact .app .here | exact .app (.next .here) | exact .app (.next (.next .here)) | exact .app (.next (.next (.next .here))) | exact .app (.next (.next (.next (.next .here)))) | exact .app (.next (.next (.next (.next (.next .here))))) | exact .app (.next (.next (.next (.next (.next (.next .here)))))) | exact .app (.next (.next (.next (.next (.next (.next (.next .here))))))) | exact .app .in1 | exact .app .in2 | exact .app (.next .in1) | exact .next (.app .in1) | exact .next (.next (.app .in1)) | exact .next (.app .here) | exact .next (.next (.app .here)) | exact .next (.next (.next (.app .here))) | exact .next (.next (.next (.next (.app .here))))) rfl trivial rfl rfl Try.underlying31 rfl rfl (by rfl) ?_
                    refine G.call E13 rfl rfl trivial rfl rfl (write_form W0 [W, sN, sS, sL, P] _ bd b2 d hdd j hj oa l.length oc (by have h : (l.length : Int) > 64 := hc6; omega)) rfl ?_
                    rintro e L2 ⟨rfl, rfl⟩
                    refine G.moveI rfl trivial rfl rfl rfl ?_
                    refine G.bin rfl trivial rfl rfl rfl rfl rfl ?_
                    refine G.nil ?_
                    refine C.no rfl (by simp) ?_
                    refine C.skip ?_
                    refine C.seq ?_
                    refine C.region ?_
                    refine G.moveI rfl trivial rfl rfl rfl ?_
                    refine G.bin rfl trivial rfl rfl rfl rfl rfl ?_
                    refine G.nil ?_
                    refine C.condF rfl ?_
                    refine C.skip ?_
                    exact ⟨d, bd, b2, f, W, sN, sS, sL, P, hd, hdl, hlst, hFR, hw, rfl, rfl, rfl, rfl, rfl, rfl, rfl⟩
                  · intro hc6
                    have hl64 : l.length ≤ 64 := by have h : ¬ (l.length : Int) > 64 := hc6; omega
                    refine C.skip ?_
                    refine C.seq ?_
                    refine C.seq ?_
                    refine C.region ?_
                    refine G.moveP rfl trivial rfl rfl rfl ?_
                    refine G.fieldAddr rfl trivial rfl rfl Try.underlying33 rfl I3 rfl rfl ?_
                    refine G.loadAt (by first | exact .here | exact .next .here | exact .next (.next .here) | exact .next (.next (.next .here)) | exact .next (.next (.next (.next .here))) | exact .next (.next (.next (.next (.next .here)))) | exact .next (.next (.next (.next (.next (.next .here))))) | exact .next (.next (.next (.next (.next (.next (.next .here)))))) | exact .in1 | exact .next .in1 | exact .next (.next .in1) | exact .next (.next (.next .in1)) | exact .next (.next (.next (.next .in1))) | exact .in2 | exact .next .in2 | exact .next (.next .in2) | exact .next (.next (.next .in2)) | exact .next (.next (.next (.next .in2))) | exact .app .here | exact .app (.next .here) | exact .app (.next (.next .here)) | exact .app (.next (.next (.next .here))) | exact .app (.next (.next (.next (.next .here)))) | exact .app (.next (.next (.next (.next (.next .here))))) | exact .app (.next (.next (.next (.next (.next (.next .here)))))) | exact .app (.next (.next (.next (.next (.next (.next (.next .here))))))) | exact .app .in1 | exact .app .in2 | exact .app (.next .in1) | exact .next (.app .in1) | exact .next (.next (.app .in1)) | exact .next (.app .here) | exact .next (.next (.app .here)) | exact .next (.next (.next (.app .here))) | exact .next (.next (.next (.next (.app .here))))) rfl trivial rfl rfl Try.underlying3 rfl rfl (by rfl) ?_
                    refine G.fieldAddr rfl trivial rfl rfl Try.underlying33 rfl I31 rfl rfl ?_
                    refine G.loadAt (by first | exact .here | exact .next .here | exact .next (.next .here) | exact .next (.next (.next .here)) | exact .next (.next (.next (.next .here))) | exact .next (.next (.next (.next (.next .here)))) | exact .next (.next (.next (.next (.next (.next .here))))) | exact .next (.next (.next (.next (.next (.next (.next .here)))))) | exact .in1 | exact .next .in1 | exact .next (.next .in1) | exact .next (.next (.next .in1)) | exact .next (.next (.next (.next .in1))) | exact .in2 | exact .next .in2 | exact .next (.next .in2) | exact .next (.next (.next .in2)) | exact .next (.next (.next (.next .in2))) | exact .app .here | exact .app (.next .here) | exact .app (.next (.next .here)) | exact .app (.next (.next (.next .here))) | exact .app (.next (.next (.next (.next .here)))) | exact .app (.next (.next (.next (.next (.next .here))))) | exact .app (.next (.next (.next (.next (.next (.next .here)))))) | exact .app (.next (.next (.next (.next (.next (.next (.next .here))))))) | exact .app .in1 | exact .app .in2 | exact .app (.next .in1) | exact .next (.app .in1) | exact .next (.next (.app .in1)) | exact .next (.app .here) | exact .next (.next (.app .here)) | exact .next (.next (.next (.app .here))) | exact .next (.next (.next (.next (.app .here))))) rfl trivial rfl rfl Try.underlying31 rfl rfl (by rfl) ?_
                    refine G.call E13 rfl rfl trivial rfl rfl (write_ok W0 [W, sN, sS, sL, P] _ bd b2 d hd hdd j hj oa oc l hl64 (hlr _)) rfl ?_
                    rintro e L2 ⟨rfl, rfl⟩
                    refine G.moveI rfl trivial rfl rfl rfl ?_
                    refine G.bin rfl trivial rfl rfl rfl rfl rfl ?_
                    refine G.nil ?_
                    refine C.no rfl (by simp) ?_
                    refine C.skip ?_
                    refine C.seq ?_
                    refine C.region ?_
                    refine G.moveI rfl trivial rfl rfl rfl ?_
                    refine G.bin rfl trivial rfl rfl rfl rfl rfl ?_
                    refine G.nil ?_
                    refine C.condT rfl ?_
                    refine C.region ?_
                    refine G.moveP rfl trivial rfl rfl rfl ?_
                    refine G.fieldAddr rfl trivial rfl rfl Try.underlying33 rfl I3 rfl rfl ?_
                    refine G.loadAt (by first | exact .here | exact .next .here | exact .next (.next .here) | exact .next (.next (.next .here)) | exact .next (.next (.next (.next .here))) | exact .next (.next (.next (.next (.next .here)))) | exact .next (.next (.next (.next (.next (.next .here))))) | exact .next (.next (.next (.next (.next (.next (.next .here)))))) | exact .in1 | exact .next .in1 | exact .next (.next .in1) | exact .next (.next (.next .in1)) | exact .next (.next (.next (.next .in1))) | exact .in2 | exact .next .in2 | exact .next (.next .in2) | exact .next (.next (.next .in2)) | exact .next (.next (.next (.next .in2))) | exact .app .here | exact .app (.next .here) | exact .app (.next (.next .here)) | exact .app (.next (.next (.next .here))) | exact .app (.next (.next (.next (.next .here)))) | exact .app (.next (.next (.next (.next (.next .here))))) | exact .app (.next (.next (.next (.next (.next (.next .here)))))) | exact .app (.next (.next (.next (.next (.next (.next (.next .here))))))) | exact .app .in1 | exact .app .in2 | exact .app (.next .in1) | exact .next (.app .in1) | exact .next (.next (.app .in1)) | exact .next (.app .here) | exact .next (.next (.app .here)) | exact .next (.next (.next (.app .here))) | exact .next (.next (.next (.next (.app .here))))) rfl trivial rfl rfl Try.underlying3 rfl rfl (by rfl) ?_
                    refine G.fieldAddr rfl trivial rfl rfl Try.underlying33 rfl I31 rfl rfl ?_
                    refine G.loadAt (by first | exact .here | exact .next .here | exact .next (.next .here) | exact .next (.next (.next .here)) | exact .next (.next (.next (.next .here))) | exact .next (.next (.next (.next (.next .here)))) | exact .next (.next (.next (.next (.next (.next .here))))) | exact .next (.next (.next (.next (.next (.next (.next .here)))))) | exact .in1 | exact .next .in1 | exact .next (.next .in1) | exact .next (.next (.next .in1)) | exact .next (.next (.next (.next .in1))) | exact .in2 | exact .next .in2 | exact .next (.next .in2) | exact .next (.next (.next .in2)) | exact .next (.next (.next (.next .in2))) | exact .app .here | exact .app (.next .here) | exact .app (.next (.next .here)) | exact .app (.next (.next (.next .here))) | exact .app (.next (.next (.next (.next .here)))) | exact .app (.next (.next (.next (.next (.next .here))))) | exact .app (.next (.next (.next (.next (.next (.next .here)))))) | exact .app (.next (.next (.next (.next (.next (.next (.next .here))))))) | exact .app .in1 | exact .app .in2 | exact .app (.next .in1) | exact .next (.app .in1) | exact .next (.next (.app .in1)) | exact .next (.app .here) | exact .next (.next (.app .here)) | exact .next (.next (.next (.app .here))) | exact .next (.next (.next (.next (.app .here))))) rfl trivial rfl rfl Try.underlying31 rfl rfl (by rfl) ?_
                    refine G.call E14 rfl rfl trivial rfl rfl (wwrites_spec W0 b22 d.l (by omega) hd.1 d.calls f hFR.rng W sN sS sL P hw _ j hj oa oc l hl64 (fun s => hlr _)) rfl ?_
                    rintro e L2 ⟨W2, sN2, sS2, sL2, P2, hw2, rfl, rfl⟩
                    refine G.nil ?_
                    exact ⟨d.put j l, bd, b2, nextF f, W2, sN2, sS2, sL2, P2, Dv.put_ok hd hdd hl64, by show (d.l.modify _ _).length = N; rw [List.length_modify]; exact hdl, hlst.put j l, hFR.burn hc4 rfl rfl rfl, hw2, rfl, rfl, rfl, rfl, rfl, rfl, rfl⟩
          · intro hc3
            refine C.seq ?_
            refine C.region ?_
            refine G.bin rfl trivial rfl rfl rfl rfl rfl ?_
            refine G.assignB rfl trivial rfl rfl rfl ?_
            refine G.nil ?_
            refine C.cond _ rfl ?_ ?_
            · intro hc9
              refine C.seq ?_
              refine C.region ?_
              refine G.assignI rfl trivial rfl rfl rfl ?_
              refine G.nil ?_
              refine C.seq ?_
              refine C.seq ?_
              refine C.region ?_
              refine G.moveP rfl trivial rfl rfl rfl ?_
              refine G.call E12 rfl rfl trivial rfl rfl (wdead_is W0 b22 hw _) rfl ?_
              rintro e L2 ⟨rfl, rfl⟩
              refine G.nil ?_
              refine C.cond _ rfl ?_ ?_
              · intro hc10
                refine C.region ?_
                refine G.assignI rfl trivial rfl rfl rfl ?_
                refine G.nil ?_
                refine C.seq ?_
                refine C.region ?_
                refine G.moveP rfl trivial rfl rfl rfl ?_
                refine G.call E16 rfl rfl trivial rfl rfl (flush_dead W0 [W, sN, sS, sL, P] _ bd b2 d (by rw [hFR.isDead]; exact decide_eq_true hc10)) rfl ?_
                rintro e L2 ⟨rfl, rfl⟩
                refine G.moveI rfl trivial rfl rfl rfl ?_
                refine G.bin rfl trivial rfl rfl rfl rfl rfl ?_
                refine G.nil ?_
                refine C.no rfl (by simp) ?_
                refine C.skip ?_
                exact ⟨d, bd, b2, f, W, sN, sS, sL, P, hd, hdl, hlst, hFR, hw, rfl, rfl, rfl, rfl, rfl, rfl, rfl⟩
              · intro hc10
                have hdd : d.isDead = false := by rw [hFR.isDead]; exact decide_eq_false hc10
                refine C.region ?_
                refine G.moveP rfl trivial rfl rfl rfl ?_
                refine G.call E15 rfl rfl trivial rfl rfl (wflushes_spec W0 b22 d.l (by omega) d.calls f hFR.rng W sN sS sL P hw _) rfl ?_
                rintro e L2 ⟨W2, sN2, sS2, sL2, P2, hw2, rfl, rfl⟩
                refine G.nil ?_
                refine C.seq ?_
                refine C.region ?_
                refine G.moveP rfl trivial rfl rfl rfl ?_
                refine G.call E16 rfl rfl trivial rfl rfl (flush_ok W0 [W2, sN2, sS2, sL2, P2] _ bd b2 d hd hdd) rfl ?_
                rintro e L2 ⟨rfl, rfl⟩
                refine G.moveI rfl trivial rfl rfl rfl ?_
                refine G.bin rfl trivial rfl rfl rfl rfl rfl ?_
                refine G.nil ?_
                refine C.no rfl (by simp) ?_
                refine C.skip ?_
                exact ⟨d.flush, bd, b2, nextF f, W2, sN2, sS2, sL2, P2, Dv.flush_ok hd hdd, by show (d.l.map _).length = N; rw [List.length_map]; exact hdl, Lst.flush _, hFR.burn hc10 rfl rfl rfl, hw2, rfl, rfl, rfl, rfl, rfl, rfl, rfl⟩
            · intro hc9
              refine C.seq ?_
              refine C.region ?_
              refine G.bin rfl trivial rfl rfl rfl rfl rfl ?_
              refine G.assignB rfl trivial rfl rfl rfl ?_
              refine G.nil ?_
              refine C.cond _ rfl ?_ ?_
              · intro hc12
                refine C.seq ?_
                refine C.region ?_
                refine G.moveP rfl trivial rfl rfl rfl ?_
                refine G.fieldAddr rfl trivial rfl rfl Try.underlying33 rfl I28 rfl rfl ?_
                refine G.loadAt (by first | exact .here | exact .next .here | exact .next (.next .here) | exact .next (.next (.next .here)) | exact .next (.next (.next (.next .here))) | exact .next (.next (.next (.next (.next .here)))) | exact .next (.next (.next (.next (.next (.next .here))))) | exact .next (.next (.next (.next (.next (.next (.next .here)))))) | exact .in1 | exact .next .in1 | exact .next (.next .in1) | exact .next (.next (.next .in1)) | exact .next (.next (.next (.next .in1))) | exact .in2 | exact .next .in2 | exact .next (.next .in2) | exact .next (.next (.next .in2)) | exact .next (.next (.next (.next .in2))) | exact .app .here | exact .app (.next .here) | exact .app (.next (.next .here)) | exact .app (.next (.next (.next .here))) | exact .app (.next (.next (.next (.next .here)))) | exact .app (.next (.next (.next (.next (.next .here))))) | exact .app (.next (.next (.next (.next (.next (.next .here)))))) | exact .app (.next (.next (.next (.next (.next (.next (.next .here))))))) | exact .app .in1 | exact .app .in2 | exact .app (.next .in1) | exact .next (.app .in1) | exact .next (.next (.app .in1)) | exact .next (.app .here) | exact .next (.next (.app .here)) | exact .next (.next (.next (.app .here))) | exact .next (.next (.next (.next (.app .here))))) rfl trivial rfl rfl Try.underlying28 rfl rfl (by rfl) ?_
                refine G.call E17 rfl rfl trivial rfl rfl (crash_spec W0 [W, sN, sS, sL, P] _ bd b2 d hd (by omega) ka kc ks hkc (fun _ => hkr _)) rfl ?_
                rintro e L2 ⟨bd2, bl2, rfl, rfl⟩
                refine G.less (L' := W :: sN :: sS :: sL :: P :: devSeg bd2 bl2 (d.crash ks) :: [(b10, .row (dopC ⟨kd, no, oa, oc, l, ka, kc, ks⟩) 33 4)] :: []) (fun _ h => drop_y (h.of_flat (List.perm_append_comm_assoc [_] [W, sN, sS, sL, P] (devSeg bd b2 d :: [(b10, .row (dopC ⟨kd, no, oa, oc, l, ka, kc, ks⟩) 33 4)] :: [])).flatten)) ?_
                refine G.assignP rfl trivial rfl rfl rfl ?_
                refine G.nil ?_
                refine C.region ?_
                refine G.moveP rfl trivial rfl rfl rfl ?_
                refine G.fieldAddr rfl trivial rfl rfl Try.underlying33 rfl I28 rfl rfl ?_
                refine G.loadAt (by first | exact .here | exact .next .here | exact .next (.next .here) | exact .next (.next (.next .here)) | exact .next (.next (.next (.next .here))) | exact .next (.next (.next (.next (.next .here)))) | exact .next (.next (.next (.next (.next (.next .here))))) | exact .next (.next (.next (.next (.next (.next (.next .here)))))) | exact .in1 | exact .next .in1 | exact .next (.next .in1) | exact .next (.next (.next .in1)) | exact .next (.next (.next (.next .in1))) | exact .in2 | exact .next .in2 | exact .next (.next .in2) | exact .next (.next (.next .in2)) | exact .next (.next (.next (.next .in2))) | exact .app .here | exact .app (.next .here) | exact .app (.next (.next .here)) | exact .app (.next (.next (.next .here))) | exact .app (.next (.next (.next (.next .here)))) | exact .app (.next (.next (.next (.next (.next .here))))) | exact .app (.next (.next (.next (.next (.next (.next .here)))))) | exact .app (.next (.next (.next (.next (.next (.next (.next .here))))))) | exact .app .in1 | exact .app .in2 | exact .app (.next .in1) | exact .next (.app .in1) | exact .next (.next (.app .in1)) | exact .next (.app .here) | exact .next (.next (.app .here)) | exact .next (.next (.next (.app .here))) | exact .next (.next (.next (.next (.app .here))))) rfl trivial rfl rfl Try.underlying28 rfl rfl (by rfl) ?_
                refine G.call E18 rfl rfl trivial rfl rfl (wcrashes_spec W0 b22 d.l (by omega) hlst d.calls f W sN sS sL P hw _ ka kc ks (by omega) hkr) rfl ?_
                rintro e L2 ⟨W2, sN2, sS2, sL2, P2, hw2, rfl, rfl⟩
                refine G.nil ?_
                exact ⟨d.crash ks, bd2, bl2, -1, W2, sN2, sS2, sL2, P2, crash_ok hd ks, by rw [crash_len]; exact hdl, Lst.both _, .inr (.inr ⟨rfl, rfl, rfl⟩), hw2, rfl, rfl, rfl, rfl, rfl, rfl, rfl⟩
              · intro hc12
                refine C.seq ?_
                refine C.region ?_
                refine G.moveP rfl trivial rfl rfl rfl ?_
                refine G.fieldAddr rfl trivial rfl rfl Try.underlying33 rfl I3 rfl rfl ?_
                refine G.loadAt (by first | exact .here | exact .next .here | exact .next (.next .here) | exact .next (.next (.next .here)) | exact .next (.next (.next (.next .here))) | exact .next (.next (.next (.next (.next .here)))) | exact .next (.next (.next (.next (.next (.next .here))))) | exact .next (.next (.next (.next (.next (.next (.next .here)))))) | exact .in1 | exact .next .in1 | exact .next (.next .in1) | exact .next (.next (.next .in1)) | exact .next (.next (.next (.next .in1))) | exact .in2 | exact .next .in2 | exact .next (.next .in2) | exact .next (.next (.next .in2)) | exact .next (.next (.next (.next .in2))) | exact .app .here | exact .app (.next .here) | exact .app (.next (.next .here)) | exact .app (.next (.next (.next .here))) | exact .app (.next (.next (.next (.next .here)))) | exact .app (.next (.next (.next (.next (.next .here))))) | exact .app (.next (.next (.next (.next (.next (.next .here)))))) | exact .app (.next (.next (.next (.next (.next (.next (.next .here))))))) | exact .app .in1 | exact .app .in2 | exact .app (.next .in1) | exact .next (.app .in1) | exact .next (.next (.app .in1)) | exact .next (.app .here) | exact .next (.next (.app .here)) | exact .next (.next (.next (.app .here))) | exact .next (.next (.next (.next (.app .here))))) rfl trivial rfl rfl Try.underlying3 rfl rfl (by rfl) ?_
                refine G.call E19 rfl rfl trivial rfl rfl (fuse_spec W0 [W, sN, sS, sL, P] _ bd b2 d no) rfl ?_
                rintro e L2 ⟨rfl, rfl⟩
                refine G.nil ?_
                refine C.seq ?_
                refine C.region ?_
                refine G.moveP rfl trivial rfl rfl rfl ?_
                refine G.call E12 rfl rfl trivial rfl rfl (wdead_is W0 b22 hw _) rfl ?_
                rintro e L2 ⟨rfl, rfl⟩
                first | refine G.notD rfl trivial rfl rfl rfl ?_ | refine G.not rfl trivial rfl rfl rfl ?_
                refine G.nil ?_
                refine C.cond _ rfl ?_ ?_
                · intro hc13
                  obtain ⟨ns2, ss2, pl2, bn2, cn2, kn2, bS2, cS2, kS2, bl3, cl2, kl2, rfl, rfl, rfl, rfl, rfl, q1, q2, q3, q4⟩ := hw
                  refine C.region ?_
                  refine G.moveP rfl trivial rfl rfl rfl ?_
                  refine G.fieldAddr rfl trivial rfl rfl Try.underlying33 rfl I3 rfl rfl ?_
                  refine G.loadAt (by first | exact .here | exact .next .here | exact .next (.next .here) | exact .next (.next (.next .here)) | exact .next (.next (.next (.next .here))) | exact .next (.next (.next (.next (.next .here)))) | exact .next (.next (.next (.next (.next (.next .here))))) | exact .next (.next (.next (.next (.next (.next (.next .here)))))) | exact .in1 | exact .next .in1 | exact .next (.next .in1) | exact .next (.next (.next .in1)) | exact .next (.next (.next (.next .in1))) | exact .in2 | exact .next .in2 | exact .next (.next .in2) | exact .next (.next (.next .in2)) | exact .next (.next (.next (.next .in2))) | exact .app .here | exact .app (.next .here) | exact .app (.next (.next .here)) | exact .app (.next (.next (.next .here))) | exact .app (.next (.next (.next (.next .here)))) | exact .app (.next (.next (.next (.next (.next .here))))) | exact .app (.next (.next (.next (.next (.next (.next .here)))))) | exact .app (.next (.next (.next (.next (.next (.next (.next .here))))))) | exact .app .in1 | exact .app .in2 | exact .app (.next .in1) | exact .next (.app .in1) | exact .next (.next (.app .in1)) | exact .next (.app .here) | exact .next (.next (.app .here)) | exact .next (.next (.next (.app .here))) | exact .next (.next (.next (.next (.app .here))))) rfl trivial rfl rfl Try.underlying3 rfl rfl (by rfl) ?_
                  refine G.max2 rfl trivial rfl rfl rfl rfl ?_
                  refine G.fix (d := 87) (v := .int .i64 (max (-1) no)) (by show Value.int .i64 (if no > -1 then no else -1) = _; congr 1; by_cases hq : no > -1; rw [if_pos hq]; omega; rw [if_neg hq]; omega) ?_
                  first | refine G.nilCheckP rfl trivial rfl rfl rfl ?_ | refine G.nilCheckF rfl trivial rfl rfl rfl ?_
                  refine G.fieldAddr rfl trivial rfl rfl Try.underlying30 rfl I3 rfl rfl ?_
                  refine G.store (v := .int _ _) (by first | exact .here | exact .next .here | exact .next (.next .here) | exact .next (.next (.next .here)) | exact .next (.next (.next (.next .here))) | exact .next (.next (.next (.next (.next .here)))) | exact .next (.next (.next (.next (.next (.next .here))))) | exact .next (.next (.next (.next (.next (.next (.next .here)))))) | exact .in1 | exact .next .in1 | exact .next (.next .in1) | exact .next (.next (.next .in1)) | exact .next (.next (.next (.next .in1))) | exact .in2 | exact .next .in2 | exact .next (.next .in2) | exact .next (.next (.next .in2)) | exact .next (.next (.next (.next .in2))) | exact .app .here | exact .app (.next .here) | exact .app (.next (.next .here)) | exact .app (.next (.next (.next .here))) | exact .app (.next (.next (.next (.next .here)))) | exact .app (.next (.next (.next (.next (.next .here))))) | exact .app (.next (.next (.next (.next (.next (.next .here)))))) | exact .app (.next (.next (.next (.next (.next (.next (.next .here))))))) | exact .app .in1 | exact .app .in2 | exact .app (.next .in1) | exact .next (.app .in1) | exact .next (.next (.app .in1)) | exact .next (.app .here) | exact .next (.next (.app .here)) | exact .next (.next (.next (.app .here))) | exact .next (.next (.next (.next (.app .here))))) rfl trivial rfl I3 rfl rfl rfl (by first | decide | (simp; done) | (simp; omega)) _ (by first | (simp only [List.set_cons_succ, List.set_cons_zero]; done) | (simp only [List.set_cons_succ, List.set_cons_zero]; exact rfl) | exact rfl) ?_
                  refine G.nil ?_
                  exact ⟨d.setFuse no, bd, b2, max (-1) no, _, _, _, _, _, Dv.setFuse_ok hd hno.2, hdl, hlst, hFR.set hc13 no hno.2, ⟨ns2, ss2, pl2, bn2, cn2, kn2, bS2, cS2, kS2, bl3, cl2, kl2, rfl, rfl, rfl, rfl, rfl, q1, q2, q3, q4⟩, rfl, rfl, rfl, rfl, rfl, rfl, rfl⟩
                · intro hc13
                  refine C.skip ?_
                  have hf0 : f = 0 := Classical.not_not.1 hc13
                  subst hf0
                  exact ⟨d.setFuse no, bd, b2, 0, W, sN, sS, sL, P, Dv.setFuse_ok hd hno.2, hdl, hlst, hFR.dead no, hw, rfl, rfl, rfl, rfl, rfl, rfl, rfl⟩
        ·
          rintro F D' L' ⟨d, bd, b2, f, W, sN, sS, sL, P, hd, hdl, hlst, hFR, hw, h0, h1', h6, h7, h9, rfl, rfl⟩
          refine C.fix (d := 0) h0 ?_
          refine C.fix (d := 1) h1' ?_
          refine C.fix (d := 6) h6 ?_
          refine C.fix (d := 7) h7 ?_
          refine C.fix (d := 9) h9 ?_
          refine C.seq ?_
          refine C.region ?_
          refine G.moveP rfl trivial rfl rfl rfl ?_
          refine G.moveP rfl trivial rfl rfl rfl ?_
          refine G.call E20 rfl rfl trivial rfl rfl (same_spec W0 b22 bd b2 d hd (by omega) f hFR.isDead W sN sS sL P hw _) rfl ?_
          rintro e L2 ⟨rfl, rfl⟩
          first | refine G.notD rfl trivial rfl rfl rfl ?_ | refine G.not rfl trivial rfl rfl rfl ?_
          refine G.nil ?_
          refine C.condF rfl ?_
          refine C.skip ?_
          refine C.region ?_
          refine G.moveI rfl trivial rfl rfl rfl ?_
          refine G.addN (j := 1) rfl trivial rfl rfl rfl rfl (by omega) ?_
          refine G.assignI rfl trivial rfl rfl rfl ?_
          refine G.less (L' := W :: sN :: sS :: sL :: P :: devSeg bd b2 d :: []) (fun _ h => drop_y h) ?_
          refine G.nil ?_
          exact ⟨ops.length - (k + 1) + 0, by omega, k + 1, d, bd, b2, f, W, sN, sS, sL, P, rfl, by omega, by omega, hd, hdl, hlst, hFR, hw, rfl, rfl, rfl, rfl, rfl, rfl, rfl⟩
      · intro hc2
        refine C.exit ?_
        refine C.seq ?_
        refine C.region ?_
        refine G.assignB rfl trivial rfl rfl rfl ?_
        refine G.nil ?_
        refine C.ret ?_
        -- end c1Fg61Tc2F
        exact ⟨rfl, _, Res.of (rs := [.tmp 4]) rfl rfl, rfl⟩
    · intro hg61
      refine G.skip rfl rfl rfl rfl rfl rfl ?_
      refine G.skip rfl rfl rfl rfl rfl rfl ?_
      first | refine G.pickT rfl trivial rfl rfl rfl rfl ?_ | refine G.pickF rfl trivial rfl rfl rfl rfl ?_
      refine G.nil ?_
      refine C.condF rfl ?_
      refine C.exit ?_
      refine C.seq ?_
      refine C.region ?_
      refine G.assignB rfl trivial rfl rfl rfl ?_
      refine G.nil ?_
      refine C.ret ?_
      -- end c1Fg61F
      exact ⟨rfl, _, Res.of (rs := [.tmp 4]) rfl rfl, rfl⟩
end laws
end Go.Proofs.Ytooijfnimeoeaaa
