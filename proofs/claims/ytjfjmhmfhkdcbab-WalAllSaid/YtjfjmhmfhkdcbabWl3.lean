/-
  The log: what it tells; a record appended; walked.
-/
import Derived.Test.YtjfjmhmfhkdcbabWl2
namespace Go.Proofs.Ytjfjmhmfhkdcbab
open Go Go.SL Go.RowKit

theorem Mem.split1 {W0 w : World} {x : Nat × SObj} {s : Seg} {L : List Seg} (h : Mem W0 w ((x :: s) :: L)) : Mem W0 w (s :: [x] :: L) := h.of_flat (by
  simp only [List.flatten_cons, List.cons_append, List.nil_append]
  exact List.perm_middle.symm)
theorem Mem.join1 {W0 w : World} {x : Nat × SObj} {s : Seg} {L : List Seg} (h : Mem W0 w (s :: [x] :: L)) : Mem W0 w ((x :: s) :: L) := h.of_flat (by
  simp only [List.flatten_cons, List.cons_append, List.nil_append]
  exact List.perm_middle)
theorem Mem.only {W0 w : World} {s : Seg} {L : List Seg} (h : Mem W0 w (s :: L)) : Mem W0 w [s] := h.fewer (by
  simp only [List.flatten_cons, List.flatten_nil, List.append_nil]
  exact List.sublist_append_left _ _)
theorem shr_i64 (u k : Nat) (h : k < 64) : (u : Int).fdiv (2 ^ (min (k : Int).toNat 64)) = ((u / 2 ^ k : Nat) : Int) := shr_u64 u k h
section
variable (W0 : World) (S L0 : List Seg) (bg bs bd bl : Nat)
theorem fits_spec (g : Lg) (sg : Seg) (hsg : LgIs bg bs bd g sg) (n : Nat) (hn : n < 1099511627776) (hb : g.base ≤ g.end_) (he : g.end_ < 1099511627776) :
    FnS Try.prog W0 10 #[ptr bg, .int .i64 (n : Int)] (S ++ (sg :: L0)) (fun r L' => L' = S ++ (sg :: L0) ∧ r = .returned (.bool (decide (1 ≤ n ∧ n ≤ 60000 ∧ n + 4 + (g.end_ - g.base) ≤ 65536)))) := by
  obtain ⟨cs, v0, es, hcs, hes, rfl⟩ := hsg
  refine FnS.of (args := [ptr bg, .int .i64 (n : Int)]) Try.func10 rfl rfl ?_
  refine C.seq ?_
  refine C.region ?_
  refine G.assignB rfl trivial rfl rfl rfl ?_
  refine G.nil ?_
  refine C.seq ?_
  refine C.drawn mixed (_) [] (fun _ h => h) ?_
  refine GA.pure (i := 0) (fun _ _ _ _ _ h => h) rfl (by kernel_rfl) trivial rfl rfl (Y.moveP rfl rfl) (#[true, false, false, false, false, false, false, false, false, false, false, false, false, false, false, false, false, false, false, false, false, false, false, false, false, false]) (by kernel_rfl) ?_
  refine GA.pure (i := 1) (fun _ _ _ _ _ h => h) rfl (by kernel_rfl) trivial rfl rfl (Y.ptrNe rfl Try.underlying26 rfl rfl) (#[true, true, false, false, false, false, false, false, false, false, false, false, false, false, false, false, false, false, false, false, false, false, false, false, false, false]) (by kernel_rfl) ?_
  refine GA.pure (i := 2) (fun _ _ _ _ _ h => h) rfl (by kernel_rfl) trivial rfl rfl (Y.moveB rfl rfl) (#[true, true, true, false, false, false, false, false, false, false, false, false, false, false, false, false, false, false, false, false, false, false, false, false, false, false]) (by kernel_rfl) ?_
  refine GA.pure (i := 3) (fun _ _ _ _ _ h => h) rfl (by kernel_rfl) ⟨_, rfl, rfl, rfl⟩ rfl rfl (Y.moveI rfl rfl) (#[true, true, true, true, false, false, false, false, false, false, false, false, false, false, false, false, false, false, false, false, false, false, false, false, false, false]) (by kernel_rfl) ?_
  refine GA.pure (i := 4) (fun _ _ _ _ _ h => h) rfl (by kernel_rfl) ⟨_, rfl, rfl, rfl⟩ rfl rfl (Y.bin rfl rfl rfl rfl) (#[true, true, true, true, true, false, false, false, false, false, false, false, false, false, false, false, false, false, false, false, false, false, false, false, false, false]) (by kernel_rfl) ?_
  first | refine GA.pure (i := 5) (fun _ _ _ _ _ h => h) rfl (by kernel_rfl) trivial rfl rfl (Y.pickT rfl rfl rfl) (#[true, true, true, true, true, true, false, false, false, false, false, false, false, false, false, false, false, false, false, false, false, false, false, false, false, false]) (by kernel_rfl) ?_ | refine GA.pure (i := 5) (fun _ _ _ _ _ h => h) rfl (by kernel_rfl) trivial rfl rfl (Y.pickF rfl rfl rfl) (#[true, true, true, true, true, true, false, false, false, false, false, false, false, false, false, false, false, false, false, false, false, false, false, false, false, false]) (by kernel_rfl) ?_
  refine GA.pure (i := 6) (fun _ _ _ _ _ h => h) rfl (by kernel_rfl) trivial rfl rfl (Y.moveB rfl rfl) (#[true, true, true, true, true, true, true, false, false, false, false, false, false, false, false, false, false, false, false, false, false, false, false, false, false, false]) (by kernel_rfl) ?_
  refine GA.fork (t := 11) _ rfl ?_ ?_
  · intro hg11
    refine GA.pure (i := 7) (fun _ _ _ _ _ h => h) rfl (by kernel_rfl) ⟨_, rfl, rfl, rfl⟩ rfl rfl (Y.moveI rfl rfl) (#[true, true, true, true, true, true, true, true, false, false, false, false, false, false, false, false, false, false, false, false, false, false, false, false, false, false]) (by kernel_rfl) ?_
    refine GA.pure (i := 8) (fun _ _ _ _ _ h => h) rfl (by kernel_rfl) ⟨_, rfl, rfl, rfl⟩ rfl rfl (Y.bin rfl rfl rfl rfl) (#[true, true, true, true, true, true, true, true, true, false, false, false, false, false, false, false, false, false, false, false, false, false, false, false, false, false]) (by kernel_rfl) ?_
    first | refine GA.pure (i := 9) (fun _ _ _ _ _ h => h) rfl (by kernel_rfl) trivial rfl rfl (Y.pickT rfl rfl rfl) (#[true, true, true, true, true, true, true, true, true, true, false, false, false, false, false, false, false, false, false, false, false, false, false, false, false, false]) (by kernel_rfl) ?_ | refine GA.pure (i := 9) (fun _ _ _ _ _ h => h) rfl (by kernel_rfl) trivial rfl rfl (Y.pickF rfl rfl rfl) (#[true, true, true, true, true, true, true, true, true, true, false, false, false, false, false, false, false, false, false, false, false, false, false, false, false, false]) (by kernel_rfl) ?_
    refine GA.pure (i := 10) (fun _ _ _ _ _ h => h) rfl (by kernel_rfl) trivial rfl rfl (Y.moveB rfl rfl) (#[true, true, true, true, true, true, true, true, true, true, true, false, false, false, false, false, false, false, false, false, false, false, false, false, false, false]) (by kernel_rfl) ?_
    refine GA.fork (t := 15) _ rfl ?_ ?_
    · intro hg15
      refine GA.pure (i := 11) (fun _ _ _ _ _ h => h) rfl (by kernel_rfl) ⟨_, rfl, rfl, rfl⟩ rfl rfl (Y.moveI rfl rfl) (#[true, true, true, true, true, true, true, true, true, true, true, true, false, false, false, false, false, false, false, false, false, false, false, false, false, false]) (by kernel_rfl) ?_
      refine GA.pure (i := 12) (fun _ _ _ _ _ h => h) rfl (by kernel_rfl) ⟨_, rfl, rfl, rfl⟩ rfl rfl (Y.add rfl rfl rfl (by omega)) (#[true, true, true, true, true, true, true, true, true, true, true, true, true, false, false, false, false, false, false, false, false, false, false, false, false, false]) (by kernel_rfl) ?_
      refine GA.pure (i := 13) (fun _ _ _ _ _ h => h) rfl (by kernel_rfl) ⟨_, rfl, rfl, rfl⟩ rfl rfl (Y.moveP rfl rfl) (#[true, true, true, true, true, true, true, true, true, true, true, true, true, true, false, false, false, false, false, false, false, false, false, false, false, false]) (by kernel_rfl) ?_
      first | refine GA.pure (i := 14) (fun _ _ _ _ _ h => h) rfl (by kernel_rfl) ⟨_, rfl, rfl, rfl⟩ rfl rfl (Y.nilCheckP rfl rfl) (#[true, true, true, true, true, true, true, true, true, true, true, true, true, true, true, false, false, false, false, false, false, false, false, false, false, false]) (by kernel_rfl) ?_ | refine GA.pure (i := 14) (fun _ _ _ _ _ h => h) rfl (by kernel_rfl) ⟨_, rfl, rfl, rfl⟩ rfl rfl (Y.nilCheckF rfl rfl) (#[true, true, true, true, true, true, true, true, true, true, true, true, true, true, true, false, false, false, false, false, false, false, false, false, false, false]) (by kernel_rfl) ?_
      refine GA.pure (i := 15) (fun _ _ _ _ _ h => h) rfl (by kernel_rfl) ⟨_, rfl, rfl, rfl⟩ rfl rfl (Y.fieldAddr rfl Try.underlying66 rfl I2 rfl rfl) (#[true, true, true, true, true, true, true, true, true, true, true, true, true, true, true, true, false, false, false, false, false, false, false, false, false, false]) (by kernel_rfl) ?_
      refine GA.read (i := 16) (fun _ _ _ _ _ h => h) rfl (by kernel_rfl) (by kernel_rfl) ⟨_, rfl, rfl, rfl⟩ rfl rfl (Y.loadAt (v := .int .i64 (g.end_ : Int)) (.app .here) rfl Try.underlying2 rfl rfl (lr_end hcs.1)) (#[true, true, true, true, true, true, true, true, true, true, true, true, true, true, true, true, true, false, false, false, false, false, false, false, false, false]) (by kernel_rfl) ?_
      refine GA.pure (i := 17) (fun _ _ _ _ _ h => h) rfl (by kernel_rfl) ⟨_, rfl, rfl, rfl⟩ rfl rfl (Y.moveP rfl rfl) (#[true, true, true, true, true, true, true, true, true, true, true, true, true, true, true, true, true, true, false, false, false, false, false, false, false, false]) (by kernel_rfl) ?_
      first | refine GA.pure (i := 18) (fun _ _ _ _ _ h => h) rfl (by kernel_rfl) ⟨_, rfl, rfl, rfl⟩ rfl rfl (Y.nilCheckP rfl rfl) (#[true, true, true, true, true, true, true, true, true, true, true, true, true, true, true, true, true, true, true, false, false, false, false, false, false, false]) (by kernel_rfl) ?_ | refine GA.pure (i := 18) (fun _ _ _ _ _ h => h) rfl (by kernel_rfl) ⟨_, rfl, rfl, rfl⟩ rfl rfl (Y.nilCheckF rfl rfl) (#[true, true, true, true, true, true, true, true, true, true, true, true, true, true, true, true, true, true, true, false, false, false, false, false, false, false]) (by kernel_rfl) ?_
      refine GA.pure (i := 19) (fun _ _ _ _ _ h => h) rfl (by kernel_rfl) ⟨_, rfl, rfl, rfl⟩ rfl rfl (Y.fieldAddr rfl Try.underlying66 rfl I2 rfl rfl) (#[true, true, true, true, true, true, true, true, true, true, true, true, true, true, true, true, true, true, true, true, false, false, false, false, false, false]) (by kernel_rfl) ?_
      refine GA.read (i := 20) (fun _ _ _ _ _ h => h) rfl (by kernel_rfl) (by kernel_rfl) ⟨_, rfl, rfl, rfl⟩ rfl rfl (Y.loadAt (v := .int .i64 (g.base : Int)) (.app .here) rfl Try.underlying2 rfl rfl (lr_base hcs.1)) (#[true, true, true, true, true, true, true, true, true, true, true, true, true, true, true, true, true, true, true, true, true, false, false, false, false, false]) (by kernel_rfl) ?_
      refine GA.pure (i := 21) (fun _ _ _ _ _ h => h) rfl (by kernel_rfl) ⟨_, rfl, rfl, rfl⟩ rfl rfl (Y.sub rfl rfl rfl (by omega)) (#[true, true, true, true, true, true, true, true, true, true, true, true, true, true, true, true, true, true, true, true, true, true, false, false, false, false]) (by kernel_rfl) ?_
      refine GA.pure (i := 22) (fun _ _ _ _ _ h => h) rfl (by kernel_rfl) ⟨_, rfl, rfl, rfl⟩ rfl rfl (Y.sub rfl rfl rfl (by omega)) (#[true, true, true, true, true, true, true, true, true, true, true, true, true, true, true, true, true, true, true, true, true, true, true, false, false, false]) (by kernel_rfl) ?_
      refine GA.pure (i := 23) (fun _ _ _ _ _ h => h) rfl (by kernel_rfl) ⟨_, rfl, rfl, rfl⟩ rfl rfl (Y.bin rfl rfl rfl rfl) (#[true, true, true, true, true, true, true, true, true, true, true, true, true, true, true, true, true, true, true, true, true, true, true, true, false, false]) (by kernel_rfl) ?_
      first | refine GA.pure (i := 24) (fun _ _ _ _ _ h => h) rfl (by kernel_rfl) trivial rfl rfl (Y.pickT rfl rfl rfl) (#[true, true, true, true, true, true, true, true, true, true, true, true, true, true, true, true, true, true, true, true, true, true, true, true, true, false]) (by kernel_rfl) ?_ | refine GA.pure (i := 24) (fun _ _ _ _ _ h => h) rfl (by kernel_rfl) trivial rfl rfl (Y.pickF rfl rfl rfl) (#[true, true, true, true, true, true, true, true, true, true, true, true, true, true, true, true, true, true, true, true, true, true, true, true, true, false]) (by kernel_rfl) ?_
      refine GA.pure (i := 25) (fun _ _ _ _ _ h => h) rfl (by kernel_rfl) trivial rfl rfl (Y.assignB rfl rfl) (#[true, true, true, true, true, true, true, true, true, true, true, true, true, true, true, true, true, true, true, true, true, true, true, true, true, true]) (by kernel_rfl) ?_
      refine GA.done (by kernel_rfl) ?_
      refine C.ret ?_
      -- end g11Tg15T
      exact ⟨rfl, _, Res.of (rs := [.tmp 4]) rfl rfl, rfl, by congr 2; show Value.bool (decide _) = _; congr 1; rw [decide_eq_decide]; omega⟩
    · intro hg15
      refine GA.skip (i := 11) (fun _ _ _ _ _ h => h) rfl (by kernel_rfl) rfl rfl rfl rfl rfl rfl (#[true, true, true, true, true, true, true, true, true, true, true, true, false, false, false, false, false, false, false, false, false, false, false, false, false, false]) (by kernel_rfl) ?_
      refine GA.skip (i := 12) (fun _ _ _ _ _ h => h) rfl (by kernel_rfl) rfl rfl rfl rfl rfl rfl (#[true, true, true, true, true, true, true, true, true, true, true, true, true, false, false, false, false, false, false, false, false, false, false, false, false, false]) (by kernel_rfl) ?_
      refine GA.skip (i := 13) (fun _ _ _ _ _ h => h) rfl (by kernel_rfl) rfl rfl rfl rfl rfl rfl (#[true, true, true, true, true, true, true, true, true, true, true, true, true, true, false, false, false, false, false, false, false, false, false, false, false, false]) (by kernel_rfl) ?_
      refine GA.skip (i := 14) (fun _ _ _ _ _ h => h) rfl (by kernel_rfl) rfl rfl rfl rfl rfl rfl (#[true, true, true, true, true, true, true, true, true, true, true, true, true, true, true, false, false, false, false, false, false, false, false, false, false, false]) (by kernel_rfl) ?_
      refine GA.skip (i := 15) (fun _ _ _ _ _ h => h) rfl (by kernel_rfl) rfl rfl rfl rfl rfl rfl (#[true, true, true, true, true, true, true, true, true, true, true, true, true, true, true, true, false, false, false, false, false, false, false, false, false, false]) (by kernel_rfl) ?_
      refine GA.skip (i := 16) (fun _ _ _ _ _ h => h) rfl (by kernel_rfl) rfl rfl rfl rfl rfl rfl (#[true, true, true, true, true, true, true, true, true, true, true, true, true, true, true, true, true, false, false, false, false, false, false, false, false, false]) (by kernel_rfl) ?_
      refine GA.skip (i := 17) (fun _ _ _ _ _ h => h) rfl (by kernel_rfl) rfl rfl rfl rfl rfl rfl (#[true, true, true, true, true, true, true, true, true, true, true, true, true, true, true, true, true, true, false, false, false, false, false, false, false, false]) (by kernel_rfl) ?_
      refine GA.skip (i := 18) (fun _ _ _ _ _ h => h) rfl (by kernel_rfl) rfl rfl rfl rfl rfl rfl (#[true, true, true, true, true, true, true, true, true, true, true, true, true, true, true, true, true, true, true, false, false, false, false, false, false, false]) (by kernel_rfl) ?_
      refine GA.skip (i := 19) (fun _ _ _ _ _ h => h) rfl (by kernel_rfl) rfl rfl rfl rfl rfl rfl (#[true, true, true, true, true, true, true, true, true, true, true, true, true, true, true, true, true, true, true, true, false, false, false, false, false, false]) (by kernel_rfl) ?_
      refine GA.skip (i := 20) (fun _ _ _ _ _ h => h) rfl (by kernel_rfl) rfl rfl rfl rfl rfl rfl (#[true, true, true, true, true, true, true, true, true, true, true, true, true, true, true, true, true, true, true, true, true, false, false, false, false, false]) (by kernel_rfl) ?_
      refine GA.skip (i := 21) (fun _ _ _ _ _ h => h) rfl (by kernel_rfl) rfl rfl rfl rfl rfl rfl (#[true, true, true, true, true, true, true, true, true, true, true, true, true, true, true, true, true, true, true, true, true, true, false, false, false, false]) (by kernel_rfl) ?_
      refine GA.skip (i := 22) (fun _ _ _ _ _ h => h) rfl (by kernel_rfl) rfl rfl rfl rfl rfl rfl (#[true, true, true, true, true, true, true, true, true, true, true, true, true, true, true, true, true, true, true, true, true, true, true, false, false, false]) (by kernel_rfl) ?_
      refine GA.skip (i := 23) (fun _ _ _ _ _ h => h) rfl (by kernel_rfl) rfl rfl rfl rfl rfl rfl (#[true, true, true, true, true, true, true, true, true, true, true, true, true, true, true, true, true, true, true, true, true, true, true, true, false, false]) (by kernel_rfl) ?_
      first | refine GA.pure (i := 24) (fun _ _ _ _ _ h => h) rfl (by kernel_rfl) trivial rfl rfl (Y.pickT rfl rfl rfl) (#[true, true, true, true, true, true, true, true, true, true, true, true, true, true, true, true, true, true, true, true, true, true, true, true, true, false]) (by kernel_rfl) ?_ | refine GA.pure (i := 24) (fun _ _ _ _ _ h => h) rfl (by kernel_rfl) trivial rfl rfl (Y.pickF rfl rfl rfl) (#[true, true, true, true, true, true, true, true, true, true, true, true, true, true, true, true, true, true, true, true, true, true, true, true, true, false]) (by kernel_rfl) ?_
      refine GA.pure (i := 25) (fun _ _ _ _ _ h => h) rfl (by kernel_rfl) trivial rfl rfl (Y.assignB rfl rfl) (#[true, true, true, true, true, true, true, true, true, true, true, true, true, true, true, true, true, true, true, true, true, true, true, true, true, true]) (by kernel_rfl) ?_
      refine GA.done (by kernel_rfl) ?_
      refine C.ret ?_
      -- end g11Tg15F
      exact ⟨rfl, _, Res.of (rs := [.tmp 4]) rfl rfl, rfl, by rw [decide_eq_false (show ¬ (1 ≤ n ∧ n ≤ 60000 ∧ n + 4 + (g.end_ - g.base) ≤ 65536) by omega)]; rfl⟩
  · intro hg11
    refine GA.skip (i := 7) (fun _ _ _ _ _ h => h) rfl (by kernel_rfl) rfl rfl rfl rfl rfl rfl (#[true, true, true, true, true, true, true, true, false, false, false, false, false, false, false, false, false, false, false, false, false, false, false, false, false, false]) (by kernel_rfl) ?_
    refine GA.skip (i := 8) (fun _ _ _ _ _ h => h) rfl (by kernel_rfl) rfl rfl rfl rfl rfl rfl (#[true, true, true, true, true, true, true, true, true, false, false, false, false, false, false, false, false, false, false, false, false, false, false, false, false, false]) (by kernel_rfl) ?_
    first | refine GA.pure (i := 9) (fun _ _ _ _ _ h => h) rfl (by kernel_rfl) trivial rfl rfl (Y.pickT rfl rfl rfl) (#[true, true, true, true, true, true, true, true, true, true, false, false, false, false, false, false, false, false, false, false, false, false, false, false, false, false]) (by kernel_rfl) ?_ | refine GA.pure (i := 9) (fun _ _ _ _ _ h => h) rfl (by kernel_rfl) trivial rfl rfl (Y.pickF rfl rfl rfl) (#[true, true, true, true, true, true, true, true, true, true, false, false, false, false, false, false, false, false, false, false, false, false, false, false, false, false]) (by kernel_rfl) ?_
    refine GA.pure (i := 10) (fun _ _ _ _ _ h => h) rfl (by kernel_rfl) trivial rfl rfl (Y.moveB rfl rfl) (#[true, true, true, true, true, true, true, true, true, true, true, false, false, false, false, false, false, false, false, false, false, false, false, false, false, false]) (by kernel_rfl) ?_
    refine GA.skip (i := 11) (fun _ _ _ _ _ h => h) rfl (by kernel_rfl) rfl rfl rfl rfl rfl rfl (#[true, true, true, true, true, true, true, true, true, true, true, true, false, false, false, false, false, false, false, false, false, false, false, false, false, false]) (by kernel_rfl) ?_
    refine GA.skip (i := 12) (fun _ _ _ _ _ h => h) rfl (by kernel_rfl) rfl rfl rfl rfl rfl rfl (#[true, true, true, true, true, true, true, true, true, true, true, true, true, false, false, false, false, false, false, false, false, false, false, false, false, false]) (by kernel_rfl) ?_
    refine GA.skip (i := 13) (fun _ _ _ _ _ h => h) rfl (by kernel_rfl) rfl rfl rfl rfl rfl rfl (#[true, true, true, true, true, true, true, true, true, true, true, true, true, true, false, false, false, false, false, false, false, false, false, false, false, false]) (by kernel_rfl) ?_
    refine GA.skip (i := 14) (fun _ _ _ _ _ h => h) rfl (by kernel_rfl) rfl rfl rfl rfl rfl rfl (#[true, true, true, true, true, true, true, true, true, true, true, true, true, true, true, false, false, false, false, false, false, false, false, false, false, false]) (by kernel_rfl) ?_
    refine GA.skip (i := 15) (fun _ _ _ _ _ h => h) rfl (by kernel_rfl) rfl rfl rfl rfl rfl rfl (#[true, true, true, true, true, true, true, true, true, true, true, true, true, true, true, true, false, false, false, false, false, false, false, false, false, false]) (by kernel_rfl) ?_
    refine GA.skip (i := 16) (fun _ _ _ _ _ h => h) rfl (by kernel_rfl) rfl rfl rfl rfl rfl rfl (#[true, true, true, true, true, true, true, true, true, true, true, true, true, true, true, true, true, false, false, false, false, false, false, false, false, false]) (by kernel_rfl) ?_
    refine GA.skip (i := 17) (fun _ _ _ _ _ h => h) rfl (by kernel_rfl) rfl rfl rfl rfl rfl rfl (#[true, true, true, true, true, true, true, true, true, true, true, true, true, true, true, true, true, true, false, false, false, false, false, false, false, false]) (by kernel_rfl) ?_
    refine GA.skip (i := 18) (fun _ _ _ _ _ h => h) rfl (by kernel_rfl) rfl rfl rfl rfl rfl rfl (#[true, true, true, true, true, true, true, true, true, true, true, true, true, true, true, true, true, true, true, false, false, false, false, false, false, false]) (by kernel_rfl) ?_
    refine GA.skip (i := 19) (fun _ _ _ _ _ h => h) rfl (by kernel_rfl) rfl rfl rfl rfl rfl rfl (#[true, true, true, true, true, true, true, true, true, true, true, true, true, true, true, true, true, true, true, true, false, false, false, false, false, false]) (by kernel_rfl) ?_
    refine GA.skip (i := 20) (fun _ _ _ _ _ h => h) rfl (by kernel_rfl) rfl rfl rfl rfl rfl rfl (#[true, true, true, true, true, true, true, true, true, true, true, true, true, true, true, true, true, true, true, true, true, false, false, false, false, false]) (by kernel_rfl) ?_
    refine GA.skip (i := 21) (fun _ _ _ _ _ h => h) rfl (by kernel_rfl) rfl rfl rfl rfl rfl rfl (#[true, true, true, true, true, true, true, true, true, true, true, true, true, true, true, true, true, true, true, true, true, true, false, false, false, false]) (by kernel_rfl) ?_
    refine GA.skip (i := 22) (fun _ _ _ _ _ h => h) rfl (by kernel_rfl) rfl rfl rfl rfl rfl rfl (#[true, true, true, true, true, true, true, true, true, true, true, true, true, true, true, true, true, true, true, true, true, true, true, false, false, false]) (by kernel_rfl) ?_
    refine GA.skip (i := 23) (fun _ _ _ _ _ h => h) rfl (by kernel_rfl) rfl rfl rfl rfl rfl rfl (#[true, true, true, true, true, true, true, true, true, true, true, true, true, true, true, true, true, true, true, true, true, true, true, true, false, false]) (by kernel_rfl) ?_
    first | refine GA.pure (i := 24) (fun _ _ _ _ _ h => h) rfl (by kernel_rfl) trivial rfl rfl (Y.pickT rfl rfl rfl) (#[true, true, true, true, true, true, true, true, true, true, true, true, true, true, true, true, true, true, true, true, true, true, true, true, true, false]) (by kernel_rfl) ?_ | refine GA.pure (i := 24) (fun _ _ _ _ _ h => h) rfl (by kernel_rfl) trivial rfl rfl (Y.pickF rfl rfl rfl) (#[true, true, true, true, true, true, true, true, true, true, true, true, true, true, true, true, true, true, true, true, true, true, true, true, true, false]) (by kernel_rfl) ?_
    refine GA.pure (i := 25) (fun _ _ _ _ _ h => h) rfl (by kernel_rfl) trivial rfl rfl (Y.assignB rfl rfl) (#[true, true, true, true, true, true, true, true, true, true, true, true, true, true, true, true, true, true, true, true, true, true, true, true, true, true]) (by kernel_rfl) ?_
    refine GA.done (by kernel_rfl) ?_
    refine C.ret ?_
    -- end g11F
    exact ⟨rfl, _, Res.of (rs := [.tmp 4]) rfl rfl, rfl, by rw [decide_eq_false (show ¬ (1 ≤ n ∧ n ≤ 60000 ∧ n + 4 + (g.end_ - g.base) ≤ 65536) by omega)]; rfl⟩
theorem fits_nil (L : List Seg) (n : Int) : FnS Try.prog W0 10 #[.pointer none, .int .i64 n] L (fun r L' => L' = L ∧ r = .returned (.bool false)) := by
  refine FnS.of (args := [.pointer none, .int .i64 n]) Try.func10 rfl rfl ?_
  refine C.seq ?_
  refine C.region ?_
  refine G.assignB rfl trivial rfl rfl rfl ?_
  refine G.nil ?_
  refine C.seq ?_
  refine C.drawn mixed (_) [] (fun _ h => h) ?_
  refine GA.pure (i := 0) (fun _ _ _ _ _ h => h) rfl (by kernel_rfl) trivial rfl rfl (Y.moveP rfl rfl) (#[true, false, false, false, false, false, false, false, false, false, false, false, false, false, false, false, false, false, false, false, false, false, false, false, false, false]) (by kernel_rfl) ?_
  refine GA.pure (i := 1) (fun _ _ _ _ _ h => h) rfl (by kernel_rfl) trivial rfl rfl (Y.ptrNe rfl Try.underlying26 rfl rfl) (#[true, true, false, false, false, false, false, false, false, false, false, false, false, false, false, false, false, false, false, false, false, false, false, false, false, false]) (by kernel_rfl) ?_
  refine GA.pure (i := 2) (fun _ _ _ _ _ h => h) rfl (by kernel_rfl) trivial rfl rfl (Y.moveB rfl rfl) (#[true, true, true, false, false, false, false, false, false, false, false, false, false, false, false, false, false, false, false, false, false, false, false, false, false, false]) (by kernel_rfl) ?_
  refine GA.skip (i := 3) (fun _ _ _ _ _ h => h) rfl (by kernel_rfl) rfl rfl rfl rfl rfl rfl (#[true, true, true, true, false, false, false, false, false, false, false, false, false, false, false, false, false, false, false, false, false, false, false, false, false, false]) (by kernel_rfl) ?_
  refine GA.skip (i := 4) (fun _ _ _ _ _ h => h) rfl (by kernel_rfl) rfl rfl rfl rfl rfl rfl (#[true, true, true, true, true, false, false, false, false, false, false, false, false, false, false, false, false, false, false, false, false, false, false, false, false, false]) (by kernel_rfl) ?_
  first | refine GA.pure (i := 5) (fun _ _ _ _ _ h => h) rfl (by kernel_rfl) trivial rfl rfl (Y.pickT rfl rfl rfl) (#[true, true, true, true, true, true, false, false, false, false, false, false, false, false, false, false, false, false, false, false, false, false, false, false, false, false]) (by kernel_rfl) ?_ | refine GA.pure (i := 5) (fun _ _ _ _ _ h => h) rfl (by kernel_rfl) trivial rfl rfl (Y.pickF rfl rfl rfl) (#[true, true, true, true, true, true, false, false, false, false, false, false, false, false, false, false, false, false, false, false, false, false, false, false, false, false]) (by kernel_rfl) ?_
  refine GA.pure (i := 6) (fun _ _ _ _ _ h => h) rfl (by kernel_rfl) trivial rfl rfl (Y.moveB rfl rfl) (#[true, true, true, true, true, true, true, false, false, false, false, false, false, false, false, false, false, false, false, false, false, false, false, false, false, false]) (by kernel_rfl) ?_
  refine GA.skip (i := 7) (fun _ _ _ _ _ h => h) rfl (by kernel_rfl) rfl rfl rfl rfl rfl rfl (#[true, true, true, true, true, true, true, true, false, false, false, false, false, false, false, false, false, false, false, false, false, false, false, false, false, false]) (by kernel_rfl) ?_
  refine GA.skip (i := 8) (fun _ _ _ _ _ h => h) rfl (by kernel_rfl) rfl rfl rfl rfl rfl rfl (#[true, true, true, true, true, true, true, true, true, false, false, false, false, false, false, false, false, false, false, false, false, false, false, false, false, false]) (by kernel_rfl) ?_
  first | refine GA.pure (i := 9) (fun _ _ _ _ _ h => h) rfl (by kernel_rfl) trivial rfl rfl (Y.pickT rfl rfl rfl) (#[true, true, true, true, true, true, true, true, true, true, false, false, false, false, false, false, false, false, false, false, false, false, false, false, false, false]) (by kernel_rfl) ?_ | refine GA.pure (i := 9) (fun _ _ _ _ _ h => h) rfl (by kernel_rfl) trivial rfl rfl (Y.pickF rfl rfl rfl) (#[true, true, true, true, true, true, true, true, true, true, false, false, false, false, false, false, false, false, false, false, false, false, false, false, false, false]) (by kernel_rfl) ?_
  refine GA.pure (i := 10) (fun _ _ _ _ _ h => h) rfl (by kernel_rfl) trivial rfl rfl (Y.moveB rfl rfl) (#[true, true, true, true, true, true, true, true, true, true, true, false, false, false, false, false, false, false, false, false, false, false, false, false, false, false]) (by kernel_rfl) ?_
  refine GA.skip (i := 11) (fun _ _ _ _ _ h => h) rfl (by kernel_rfl) rfl rfl rfl rfl rfl rfl (#[true, true, true, true, true, true, true, true, true, true, true, true, false, false, false, false, false, false, false, false, false, false, false, false, false, false]) (by kernel_rfl) ?_
  refine GA.skip (i := 12) (fun _ _ _ _ _ h => h) rfl (by kernel_rfl) rfl rfl rfl rfl rfl rfl (#[true, true, true, true, true, true, true, true, true, true, true, true, true, false, false, false, false, false, false, false, false, false, false, false, false, false]) (by kernel_rfl) ?_
  refine GA.skip (i := 13) (fun _ _ _ _ _ h => h) rfl (by kernel_rfl) rfl rfl rfl rfl rfl rfl (#[true, true, true, true, true, true, true, true, true, true, true, true, true, true, false, false, false, false, false, false, false, false, false, false, false, false]) (by kernel_rfl) ?_
  refine GA.skip (i := 14) (fun _ _ _ _ _ h => h) rfl (by kernel_rfl) rfl rfl rfl rfl rfl rfl (#[true, true, true, true, true, true, true, true, true, true, true, true, true, true, true, false, false, false, false, false, false, false, false, false, false, false]) (by kernel_rfl) ?_
  refine GA.skip (i := 15) (fun _ _ _ _ _ h => h) rfl (by kernel_rfl) rfl rfl rfl rfl rfl rfl (#[true, true, true, true, true, true, true, true, true, true, true, true, true, true, true, true, false, false, false, false, false, false, false, false, false, false]) (by kernel_rfl) ?_
  refine GA.skip (i := 16) (fun _ _ _ _ _ h => h) rfl (by kernel_rfl) rfl rfl rfl rfl rfl rfl (#[true, true, true, true, true, true, true, true, true, true, true, true, true, true, true, true, true, false, false, false, false, false, false, false, false, false]) (by kernel_rfl) ?_
  refine GA.skip (i := 17) (fun _ _ _ _ _ h => h) rfl (by kernel_rfl) rfl rfl rfl rfl rfl rfl (#[true, true, true, true, true, true, true, true, true, true, true, true, true, true, true, true, true, true, false, false, false, false, false, false, false, false]) (by kernel_rfl) ?_
  refine GA.skip (i := 18) (fun _ _ _ _ _ h => h) rfl (by kernel_rfl) rfl rfl rfl rfl rfl rfl (#[true, true, true, true, true, true, true, true, true, true, true, true, true, true, true, true, true, true, true, false, false, false, false, false, false, false]) (by kernel_rfl) ?_
  refine GA.skip (i := 19) (fun _ _ _ _ _ h => h) rfl (by kernel_rfl) rfl rfl rfl rfl rfl rfl (#[true, true, true, true, true, true, true, true, true, true, true, true, true, true, true, true, true, true, true, true, false, false, false, false, false, false]) (by kernel_rfl) ?_
  refine GA.skip (i := 20) (fun _ _ _ _ _ h => h) rfl (by kernel_rfl) rfl rfl rfl rfl rfl rfl (#[true, true, true, true, true, true, true, true, true, true, true, true, true, true, true, true, true, true, true, true, true, false, false, false, false, false]) (by kernel_rfl) ?_
  refine GA.skip (i := 21) (fun _ _ _ _ _ h => h) rfl (by kernel_rfl) rfl rfl rfl rfl rfl rfl (#[true, true, true, true, true, true, true, true, true, true, true, true, true, true, true, true, true, true, true, true, true, true, false, false, false, false]) (by kernel_rfl) ?_
  refine GA.skip (i := 22) (fun _ _ _ _ _ h => h) rfl (by kernel_rfl) rfl rfl rfl rfl rfl rfl (#[true, true, true, true, true, true, true, true, true, true, true, true, true, true, true, true, true, true, true, true, true, true, true, false, false, false]) (by kernel_rfl) ?_
  refine GA.skip (i := 23) (fun _ _ _ _ _ h => h) rfl (by kernel_rfl) rfl rfl rfl rfl rfl rfl (#[true, true, true, true, true, true, true, true, true, true, true, true, true, true, true, true, true, true, true, true, true, true, true, true, false, false]) (by kernel_rfl) ?_
  first | refine GA.pure (i := 24) (fun _ _ _ _ _ h => h) rfl (by kernel_rfl) trivial rfl rfl (Y.pickT rfl rfl rfl) (#[true, true, true, true, true, true, true, true, true, true, true, true, true, true, true, true, true, true, true, true, true, true, true, true, true, false]) (by kernel_rfl) ?_ | refine GA.pure (i := 24) (fun _ _ _ _ _ h => h) rfl (by kernel_rfl) trivial rfl rfl (Y.pickF rfl rfl rfl) (#[true, true, true, true, true, true, true, true, true, true, true, true, true, true, true, true, true, true, true, true, true, true, true, true, true, false]) (by kernel_rfl) ?_
  refine GA.pure (i := 25) (fun _ _ _ _ _ h => h) rfl (by kernel_rfl) trivial rfl rfl (Y.assignB rfl rfl) (#[true, true, true, true, true, true, true, true, true, true, true, true, true, true, true, true, true, true, true, true, true, true, true, true, true, true]) (by kernel_rfl) ?_
  refine GA.done (by kernel_rfl) ?_
  refine C.ret ?_
  -- end 
  exact ⟨rfl, _, Res.of (rs := [.tmp 4]) rfl rfl, rfl, rfl⟩
theorem forced_spec (g : Lg) (sg : Seg) (hsg : LgIs bg bs bd g sg) : FnS Try.prog W0 13 #[ptr bg] (S ++ (sg :: L0)) (fun r L' => L' = S ++ (sg :: L0) ∧ r = .returned (.int .i64 (g.forced : Int))) := by
  obtain ⟨cs, v0, es, hcs, hes, rfl⟩ := hsg
  refine FnS.of (args := [ptr bg]) Try.func13 rfl rfl ?_
  refine C.seq ?_
  refine C.region ?_
  refine G.assignI rfl trivial rfl rfl rfl ?_
  refine G.nil ?_
  refine C.seq ?_
  refine C.seq ?_
  refine C.region ?_
  refine G.moveP rfl trivial rfl rfl rfl ?_
  refine G.ptrEq rfl trivial rfl rfl Try.underlying26 rfl rfl ?_
  refine G.nil ?_
  refine C.condF rfl ?_
  refine C.skip ?_
  refine C.seq ?_
  refine C.region ?_
  refine G.moveP rfl trivial rfl rfl rfl ?_
  first | refine G.nilCheckP rfl trivial rfl rfl rfl ?_ | refine G.nilCheckF rfl trivial rfl rfl rfl ?_
  refine G.fieldAddr rfl trivial rfl rfl Try.underlying66 rfl I2 rfl rfl ?_
  refine G.loadAt (v := .int .i64 (g.forced : Int)) (.app .here) rfl trivial rfl rfl Try.underlying2 rfl rfl (lr_forced hcs.1) ?_
  refine G.assignI rfl trivial rfl rfl rfl ?_
  refine G.nil ?_
  refine C.ret ?_
  -- end 
  exact ⟨rfl, _, Res.of (rs := [.tmp 2]) rfl rfl, rfl, rfl⟩
theorem forced_nil (L : List Seg) : FnS Try.prog W0 13 #[.pointer none] L (fun r L' => L' = L ∧ r = .returned (.int .i64 0)) := by
  refine FnS.of (args := [.pointer none]) Try.func13 rfl rfl ?_
  refine C.seq ?_
  refine C.region ?_
  refine G.assignI rfl trivial rfl rfl rfl ?_
  refine G.nil ?_
  refine C.seq ?_
  refine C.seq ?_
  refine C.region ?_
  refine G.moveP rfl trivial rfl rfl rfl ?_
  refine G.ptrEq rfl trivial rfl rfl Try.underlying26 rfl rfl ?_
  refine G.nil ?_
  refine C.condT rfl ?_
  refine C.seq ?_
  refine C.region ?_
  refine G.assignI rfl trivial rfl rfl rfl ?_
  refine G.nil ?_
  refine C.ret ?_
  -- end 
  exact ⟨rfl, _, Res.of (rs := [.tmp 2]) rfl rfl, rfl, rfl⟩
theorem end_spec (g : Lg) (sg : Seg) (hsg : LgIs bg bs bd g sg) : FnS Try.prog W0 15 #[ptr bg] (S ++ (sg :: L0)) (fun r L' => L' = S ++ (sg :: L0) ∧ r = .returned (.int .i64 (g.end_ : Int))) := by
  obtain ⟨cs, v0, es, hcs, hes, rfl⟩ := hsg
  refine FnS.of (args := [ptr bg]) Try.func15 rfl rfl ?_
  refine C.seq ?_
  refine C.region ?_
  refine G.assignI rfl trivial rfl rfl rfl ?_
  refine G.nil ?_
  refine C.seq ?_
  refine C.seq ?_
  refine C.region ?_
  refine G.moveP rfl trivial rfl rfl rfl ?_
  refine G.ptrEq rfl trivial rfl rfl Try.underlying26 rfl rfl ?_
  refine G.nil ?_
  refine C.condF rfl ?_
  refine C.skip ?_
  refine C.seq ?_
  refine C.region ?_
  refine G.moveP rfl trivial rfl rfl rfl ?_
  first | refine G.nilCheckP rfl trivial rfl rfl rfl ?_ | refine G.nilCheckF rfl trivial rfl rfl rfl ?_
  refine G.fieldAddr rfl trivial rfl rfl Try.underlying66 rfl I2 rfl rfl ?_
  refine G.loadAt (v := .int .i64 (g.end_ : Int)) (.app .here) rfl trivial rfl rfl Try.underlying2 rfl rfl (lr_end hcs.1) ?_
  refine G.assignI rfl trivial rfl rfl rfl ?_
  refine G.nil ?_
  refine C.ret ?_
  -- end 
  exact ⟨rfl, _, Res.of (rs := [.tmp 2]) rfl rfl, rfl, rfl⟩
theorem end_nil (L : List Seg) : FnS Try.prog W0 15 #[.pointer none] L (fun r L' => L' = L ∧ r = .returned (.int .i64 0)) := by
  refine FnS.of (args := [.pointer none]) Try.func15 rfl rfl ?_
  refine C.seq ?_
  refine C.region ?_
  refine G.assignI rfl trivial rfl rfl rfl ?_
  refine G.nil ?_
  refine C.seq ?_
  refine C.seq ?_
  refine C.region ?_
  refine G.moveP rfl trivial rfl rfl rfl ?_
  refine G.ptrEq rfl trivial rfl rfl Try.underlying26 rfl rfl ?_
  refine G.nil ?_
  refine C.condT rfl ?_
  refine C.seq ?_
  refine C.region ?_
  refine G.assignI rfl trivial rfl rfl rfl ?_
  refine G.nil ?_
  refine C.ret ?_
  -- end 
  exact ⟨rfl, _, Res.of (rs := [.tmp 2]) rfl rfl, rfl, rfl⟩
theorem base_spec (g : Lg) (sg : Seg) (hsg : LgIs bg bs bd g sg) : FnS Try.prog W0 16 #[ptr bg] (S ++ (sg :: L0)) (fun r L' => L' = S ++ (sg :: L0) ∧ r = .returned (.int .i64 (g.base : Int))) := by
  obtain ⟨cs, v0, es, hcs, hes, rfl⟩ := hsg
  refine FnS.of (args := [ptr bg]) Try.func16 rfl rfl ?_
  refine C.seq ?_
  refine C.region ?_
  refine G.assignI rfl trivial rfl rfl rfl ?_
  refine G.nil ?_
  refine C.seq ?_
  refine C.seq ?_
  refine C.region ?_
  refine G.moveP rfl trivial rfl rfl rfl ?_
  refine G.ptrEq rfl trivial rfl rfl Try.underlying26 rfl rfl ?_
  refine G.nil ?_
  refine C.condF rfl ?_
  refine C.skip ?_
  refine C.seq ?_
  refine C.region ?_
  refine G.moveP rfl trivial rfl rfl rfl ?_
  first | refine G.nilCheckP rfl trivial rfl rfl rfl ?_ | refine G.nilCheckF rfl trivial rfl rfl rfl ?_
  refine G.fieldAddr rfl trivial rfl rfl Try.underlying66 rfl I2 rfl rfl ?_
  refine G.loadAt (v := .int .i64 (g.base : Int)) (.app .here) rfl trivial rfl rfl Try.underlying2 rfl rfl (lr_base hcs.1) ?_
  refine G.assignI rfl trivial rfl rfl rfl ?_
  refine G.nil ?_
  refine C.ret ?_
  -- end 
  exact ⟨rfl, _, Res.of (rs := [.tmp 2]) rfl rfl, rfl, rfl⟩
theorem base_nil (L : List Seg) : FnS Try.prog W0 16 #[.pointer none] L (fun r L' => L' = L ∧ r = .returned (.int .i64 0)) := by
  refine FnS.of (args := [.pointer none]) Try.func16 rfl rfl ?_
  refine C.seq ?_
  refine C.region ?_
  refine G.assignI rfl trivial rfl rfl rfl ?_
  refine G.nil ?_
  refine C.seq ?_
  refine C.seq ?_
  refine C.region ?_
  refine G.moveP rfl trivial rfl rfl rfl ?_
  refine G.ptrEq rfl trivial rfl rfl Try.underlying26 rfl rfl ?_
  refine G.nil ?_
  refine C.condT rfl ?_
  refine C.seq ?_
  refine C.region ?_
  refine G.assignI rfl trivial rfl rfl rfl ?_
  refine G.nil ?_
  refine C.ret ?_
  -- end 
  exact ⟨rfl, _, Res.of (rs := [.tmp 2]) rfl rfl, rfl, rfl⟩
/-! ### A record appended -/
def Lg.app (g : Lg) (xs : List UInt8) : Lg := { g with R := putR g.R g.end_ (enc xs), end_ := g.end_ + (xs.length + 4), ends := g.ends ++ [g.end_ + (xs.length + 4)] }
theorem append_nil (L : List Seg) (v : Value) (a : Option Addr) (l c : Nat) (hv : v = .slice a l c) : FnS Try.prog W0 11 #[.pointer none, v] L (fun r L' => L' = L ∧ r = .returned (.tuple #[.int .i64 0, .int .i64 5])) := by
  subst hv
  refine FnS.of (args := [.pointer none, .slice a l c]) Try.func11 rfl rfl ?_
  refine C.seq ?_
  refine C.region ?_
  refine G.assignI rfl trivial rfl rfl rfl ?_
  refine G.assignI rfl trivial rfl rfl rfl ?_
  refine G.nil ?_
  refine C.seq ?_
  refine C.seq ?_
  refine C.region ?_
  refine G.moveS rfl trivial rfl rfl rfl ?_
  refine G.lenSlice rfl trivial rfl rfl Try.underlying34 rfl ?_
  refine G.assignI rfl trivial rfl rfl rfl ?_
  refine G.nil ?_
  refine C.block ?_
  refine C.seq ?_
  refine C.region ?_
  refine G.moveP rfl trivial rfl rfl rfl ?_
  refine G.ptrEq rfl trivial rfl rfl Try.underlying26 rfl rfl ?_
  refine G.moveB rfl trivial rfl rfl rfl ?_
  refine G.skip rfl rfl rfl rfl rfl rfl ?_
  refine G.skip rfl rfl rfl rfl rfl rfl ?_
  refine G.skip rfl rfl rfl rfl rfl rfl ?_
  refine G.skip rfl rfl rfl rfl rfl rfl ?_
  first | refine G.pickT rfl trivial rfl rfl rfl rfl ?_ | refine G.pickF rfl trivial rfl rfl rfl rfl ?_
  refine G.fix (d := 31) (v := .bool true) rfl ?_
  refine G.assignB rfl trivial rfl rfl rfl ?_
  refine G.nil ?_
  refine C.condT rfl ?_
  refine C.seq ?_
  refine C.region ?_
  refine G.assignI rfl trivial rfl rfl rfl ?_
  refine G.assignI rfl trivial rfl rfl rfl ?_
  refine G.nil ?_
  refine C.ret ?_
  -- end 
  exact ⟨rfl, _, Res.of (rs := [.tmp 4, .tmp 5]) rfl rfl, rfl, rfl⟩
theorem append_form (g : Lg) (sg : Seg) (hsg : LgIs bg bs bd g sg) (hbad : g.bad = false) (a : Option Addr) (l c : Nat) (hl : l < 1 ∨ 60000 < l) : FnS Try.prog W0 11 #[ptr bg, .slice a l c] (S ++ (sg :: L0)) (fun r L' => L' = S ++ (sg :: L0) ∧ r = .returned (.tuple #[.int .i64 0, .int .i64 1])) := by
  obtain ⟨cs, v0, es, hcs, hes, rfl⟩ := hsg
  refine FnS.of (args := [ptr bg, .slice a l c]) Try.func11 rfl rfl ?_
  refine C.seq ?_
  refine C.region ?_
  refine G.assignI rfl trivial rfl rfl rfl ?_
  refine G.assignI rfl trivial rfl rfl rfl ?_
  refine G.nil ?_
  refine C.seq ?_
  refine C.seq ?_
  refine C.region ?_
  refine G.moveS rfl trivial rfl rfl rfl ?_
  refine G.lenSlice rfl trivial rfl rfl Try.underlying34 rfl ?_
  refine G.assignI rfl trivial rfl rfl rfl ?_
  refine G.nil ?_
  refine C.block ?_
  refine C.seq ?_
  refine C.region ?_
  refine G.moveP rfl trivial rfl rfl rfl ?_
  refine G.ptrEq rfl trivial rfl rfl Try.underlying26 rfl rfl ?_
  refine G.moveB rfl trivial rfl rfl rfl ?_
  refine G.moveP rfl ⟨_, rfl, rfl, rfl⟩ rfl rfl rfl ?_
  first | refine G.nilCheckP rfl ⟨_, rfl, rfl, rfl⟩ rfl rfl rfl ?_ | refine G.nilCheckF rfl ⟨_, rfl, rfl, rfl⟩ rfl rfl rfl ?_
  refine G.fieldAddr rfl ⟨_, rfl, rfl, rfl⟩ rfl rfl Try.underlying66 rfl I4 rfl rfl ?_
  refine G.loadAt (v := .bool g.bad) (.app .here) rfl ⟨_, rfl, rfl, rfl⟩ rfl rfl Try.underlying4 rfl rfl (lr_bad hcs.1) ?_
  first | refine G.pickT rfl trivial rfl rfl rfl rfl ?_ | refine G.pickF rfl trivial rfl rfl rfl rfl ?_
  refine G.fix (d := 31) (v := .bool false) (by show Value.bool g.bad = _; rw [hbad]) ?_
  refine G.assignB rfl trivial rfl rfl rfl ?_
  refine G.nil ?_
  refine C.condF rfl ?_
  refine C.seq ?_
  refine C.region ?_
  refine G.moveI rfl trivial rfl rfl rfl ?_
  refine G.bin rfl trivial rfl rfl rfl rfl rfl ?_
  refine G.moveB rfl trivial rfl rfl rfl ?_
  refine G.fork (t := 35) _ rfl ?_ ?_
  · intro hg35
    refine G.skip rfl rfl rfl rfl rfl rfl ?_
    refine G.skip rfl rfl rfl rfl rfl rfl ?_
    first | refine G.pickT rfl trivial rfl rfl rfl rfl ?_ | refine G.pickF rfl trivial rfl rfl rfl rfl ?_
    refine G.assignB rfl trivial rfl rfl rfl ?_
    refine G.nil ?_
    refine C.condT rfl ?_
    refine C.seq ?_
    refine C.region ?_
    refine G.assignI rfl trivial rfl rfl rfl ?_
    refine G.assignI rfl trivial rfl rfl rfl ?_
    refine G.nil ?_
    refine C.ret ?_
    -- end g35T
    exact ⟨rfl, _, Res.of (rs := [.tmp 4, .tmp 5]) rfl rfl, rfl, rfl⟩
  · intro hg35
    refine G.moveI rfl ⟨_, rfl, rfl, rfl⟩ rfl rfl rfl ?_
    refine G.bin rfl ⟨_, rfl, rfl, rfl⟩ rfl rfl rfl rfl rfl ?_
    first | refine G.pickT rfl trivial rfl rfl rfl rfl ?_ | refine G.pickF rfl trivial rfl rfl rfl rfl ?_
    refine G.assignB rfl trivial rfl rfl rfl ?_
    refine G.nil ?_
    refine C.yes rfl (by omega) ?_
    refine C.seq ?_
    refine C.region ?_
    refine G.assignI rfl trivial rfl rfl rfl ?_
    refine G.assignI rfl trivial rfl rfl rfl ?_
    refine G.nil ?_
    refine C.ret ?_
    -- end g35F
    exact ⟨rfl, _, Res.of (rs := [.tmp 4, .tmp 5]) rfl rfl, rfl, rfl⟩
theorem append_full (g : Lg) (sg : Seg) (hsg : LgIs bg bs bd g sg) (hbad : g.bad = false) (hb : g.base ≤ g.end_) (he : g.end_ < 1099511627776) (a : Option Addr) (l c : Nat) (hl : 1 ≤ l ∧ l ≤ 60000) (hf : 65536 < l + 4 + (g.end_ - g.base)) : FnS Try.prog W0 11 #[ptr bg, .slice a l c] (S ++ (sg :: L0)) (fun r L' => L' = S ++ (sg :: L0) ∧ r = .returned (.tuple #[.int .i64 0, .int .i64 4])) := by
  have hsg0 := hsg
  obtain ⟨cs, v0, es, hcs, hes, rfl⟩ := hsg
  refine FnS.of (args := [ptr bg, .slice a l c]) Try.func11 rfl rfl ?_
  refine C.seq ?_
  refine C.region ?_
  refine G.assignI rfl trivial rfl rfl rfl ?_
  refine G.assignI rfl trivial rfl rfl rfl ?_
  refine G.nil ?_
  refine C.seq ?_
  refine C.seq ?_
  refine C.region ?_
  refine G.moveS rfl trivial rfl rfl rfl ?_
  refine G.lenSlice rfl trivial rfl rfl Try.underlying34 rfl ?_
  refine G.assignI rfl trivial rfl rfl rfl ?_
  refine G.nil ?_
  refine C.block ?_
  refine C.seq ?_
  refine C.region ?_
  refine G.moveP rfl trivial rfl rfl rfl ?_
  refine G.ptrEq rfl trivial rfl rfl Try.underlying26 rfl rfl ?_
  refine G.moveB rfl trivial rfl rfl rfl ?_
  refine G.moveP rfl ⟨_, rfl, rfl, rfl⟩ rfl rfl rfl ?_
  first | refine G.nilCheckP rfl ⟨_, rfl, rfl, rfl⟩ rfl rfl rfl ?_ | refine G.nilCheckF rfl ⟨_, rfl, rfl, rfl⟩ rfl rfl rfl ?_
  refine G.fieldAddr rfl ⟨_, rfl, rfl, rfl⟩ rfl rfl Try.underlying66 rfl I4 rfl rfl ?_
  refine G.loadAt (v := .bool g.bad) (.app .here) rfl ⟨_, rfl, rfl, rfl⟩ rfl rfl Try.underlying4 rfl rfl (lr_bad hcs.1) ?_
  first | refine G.pickT rfl trivial rfl rfl rfl rfl ?_ | refine G.pickF rfl trivial rfl rfl rfl rfl ?_
  refine G.fix (d := 31) (v := .bool false) (by show Value.bool g.bad = _; rw [hbad]) ?_
  refine G.assignB rfl trivial rfl rfl rfl ?_
  refine G.nil ?_
  refine C.condF rfl ?_
  refine C.seq ?_
  refine C.region ?_
  refine G.moveI rfl trivial rfl rfl rfl ?_
  refine G.bin rfl trivial rfl rfl rfl rfl rfl ?_
  refine G.moveB rfl trivial rfl rfl rfl ?_
  refine G.no (t := 35) rfl (by omega) ?_
  refine G.moveI rfl ⟨_, rfl, rfl, rfl⟩ rfl rfl rfl ?_
  refine G.bin rfl ⟨_, rfl, rfl, rfl⟩ rfl rfl rfl rfl rfl ?_
  first | refine G.pickT rfl trivial rfl rfl rfl rfl ?_ | refine G.pickF rfl trivial rfl rfl rfl rfl ?_
  refine G.assignB rfl trivial rfl rfl rfl ?_
  refine G.nil ?_
  refine C.no rfl (by omega) ?_
  refine C.seq ?_
  refine C.region ?_
  refine G.moveP rfl trivial rfl rfl rfl ?_
  refine G.moveI rfl trivial rfl rfl rfl ?_
  refine G.call E10 rfl rfl trivial rfl rfl (fits_spec W0 S L0 bg bs bd g _ hsg0 l (by omega) hb he) rfl ?_
  rintro e L2 ⟨rfl, rfl⟩
  rw [decide_eq_false (show ¬ (1 ≤ l ∧ l ≤ 60000 ∧ l + 4 + (g.end_ - g.base) ≤ 65536) by omega)]
  first | refine G.notD rfl trivial rfl rfl rfl ?_ | refine G.not rfl trivial rfl rfl rfl ?_
  refine G.fix (d := 43) (v := .bool true) rfl ?_
  refine G.assignB rfl trivial rfl rfl rfl ?_
  refine G.nil ?_
  refine C.condT rfl ?_
  refine C.seq ?_
  refine C.region ?_
  refine G.assignI rfl trivial rfl rfl rfl ?_
  refine G.assignI rfl trivial rfl rfl rfl ?_
  refine G.nil ?_
  refine C.ret ?_
  -- end 
  exact ⟨rfl, _, Res.of (rs := [.tmp 4, .tmp 5]) rfl rfl, rfl, rfl⟩
theorem append_spec (g : Lg) (sg : Seg) (hsg : LgIs bg bs bd g sg) (hbad : g.bad = false) (hb : g.base ≤ g.end_) (he : g.end_ < 1000000000000) (hends : g.ends.length ≤ 1000000) (a : Option Addr) (l c : Nat) (xs : List UInt8) (hxl : l = xs.length) (hl : 1 ≤ xs.length ∧ xs.length ≤ 60000) (hf : xs.length + 4 + (g.end_ - g.base) ≤ 65536) (hr : ∀ S : List Seg, Rd W0 (S ++ L0) a (bytesV xs)) :
    FnS Try.prog W0 11 #[ptr bg, .slice a l c] (sg :: L0) (fun r L' => ∃ sg', LgIs bg bs bd (g.app xs) sg' ∧ L' = sg' :: L0 ∧ r = .returned (.tuple #[.int .i64 ((g.end_ + (xs.length + 4) : Nat) : Int), .int .i64 0])) := by
  have hsg0 := hsg
  obtain ⟨cs, v0, es, hcs, hes, rfl⟩ := hsg
  subst hxl
  have hbe := be_length 4 xs.length
  refine FnS.of (args := [ptr bg, .slice a xs.length c]) Try.func11 rfl rfl ?_
  refine C.seq ?_
  refine C.region ?_
  refine G.assignI rfl trivial rfl rfl rfl ?_
  refine G.assignI rfl trivial rfl rfl rfl ?_
  refine G.nil ?_
  refine C.seq ?_
  refine C.seq ?_
  refine C.region ?_
  refine G.moveS rfl trivial rfl rfl rfl ?_
  refine G.lenSlice rfl trivial rfl rfl Try.underlying34 rfl ?_
  refine G.assignI rfl trivial rfl rfl rfl ?_
  refine G.nil ?_
  refine C.block ?_
  refine C.seq ?_
  refine C.region ?_
  refine G.moveP rfl trivial rfl rfl rfl ?_
  refine G.ptrEq rfl trivial rfl rfl Try.underlying26 rfl rfl ?_
  refine G.moveB rfl trivial rfl rfl rfl ?_
  refine G.moveP rfl ⟨_, rfl, rfl, rfl⟩ rfl rfl rfl ?_
  first | refine G.nilCheckP rfl ⟨_, rfl, rfl, rfl⟩ rfl rfl rfl ?_ | refine G.nilCheckF rfl ⟨_, rfl, rfl, rfl⟩ rfl rfl rfl ?_
  refine G.fieldAddr rfl ⟨_, rfl, rfl, rfl⟩ rfl rfl Try.underlying66 rfl I4 rfl rfl ?_
  refine G.loadAt (v := .bool g.bad) .here rfl ⟨_, rfl, rfl, rfl⟩ rfl rfl Try.underlying4 rfl rfl (lr_bad hcs.1) ?_
  first | refine G.pickT rfl trivial rfl rfl rfl rfl ?_ | refine G.pickF rfl trivial rfl rfl rfl rfl ?_
  refine G.fix (d := 31) (v := .bool false) (by show Value.bool g.bad = _; rw [hbad]) ?_
  refine G.assignB rfl trivial rfl rfl rfl ?_
  refine G.nil ?_
  refine C.condF rfl ?_
  refine C.seq ?_
  refine C.region ?_
  refine G.moveI rfl trivial rfl rfl rfl ?_
  refine G.bin rfl trivial rfl rfl rfl rfl rfl ?_
  refine G.moveB rfl trivial rfl rfl rfl ?_
  refine G.no (t := 35) rfl (by omega) ?_
  refine G.moveI rfl ⟨_, rfl, rfl, rfl⟩ rfl rfl rfl ?_
  refine G.bin rfl ⟨_, rfl, rfl, rfl⟩ rfl rfl rfl rfl rfl ?_
  first | refine G.pickT rfl trivial rfl rfl rfl rfl ?_ | refine G.pickF rfl trivial rfl rfl rfl rfl ?_
  refine G.assignB rfl trivial rfl rfl rfl ?_
  refine G.nil ?_
  refine C.no rfl (by omega) ?_
  refine C.seq ?_
  refine C.region ?_
  refine G.moveP rfl trivial rfl rfl rfl ?_
  refine G.moveI rfl trivial rfl rfl rfl ?_
  refine G.call E10 rfl rfl trivial rfl rfl (fits_spec W0 [] L0 bg bs bd g _ hsg0 xs.length (by omega) hb (by omega)) rfl ?_
  rintro e L2 ⟨rfl, rfl⟩
  rw [decide_eq_true (show (1 ≤ xs.length ∧ xs.length ≤ 60000 ∧ xs.length + 4 + (g.end_ - g.base) ≤ 65536) by omega)]
  first | refine G.notD rfl trivial rfl rfl rfl ?_ | refine G.not rfl trivial rfl rfl rfl ?_
  refine G.fix (d := 43) (v := .bool false) rfl ?_
  refine G.assignB rfl trivial rfl rfl rfl ?_
  refine G.nil ?_
  refine C.condF rfl ?_
  refine C.region ?_
  refine G.moveP rfl trivial rfl rfl rfl ?_
  refine G.moveI rfl trivial rfl rfl rfl ?_
  refine G.shr rfl trivial rfl rfl rfl rfl (by omega) ?_
  refine G.fix (d := 11) (v := .int .i64 ((xs.length / 16777216 : Nat) : Int)) (by show Value.int .i64 _ = _; exact congrArg _ (shr_i64 xs.length 24 (by decide))) ?_
  refine G.convInt rfl trivial rfl rfl Try.underlying3 Try.underlying5 rfl ?_
  refine G.fix (d := 12) (v := byteV (UInt8.ofNat (xs.length / 16777216))) (u8_ofN _) ?_
  refine G.moveI rfl trivial rfl rfl rfl ?_
  refine G.shr rfl trivial rfl rfl rfl rfl (by omega) ?_
  refine G.fix (d := 14) (v := .int .i64 ((xs.length / 65536 : Nat) : Int)) (by show Value.int .i64 _ = _; exact congrArg _ (shr_i64 xs.length 16 (by decide))) ?_
  refine G.convInt rfl trivial rfl rfl Try.underlying3 Try.underlying5 rfl ?_
  refine G.fix (d := 15) (v := byteV (UInt8.ofNat (xs.length / 65536))) (u8_ofN _) ?_
  refine G.moveI rfl trivial rfl rfl rfl ?_
  refine G.shr rfl trivial rfl rfl rfl rfl (by omega) ?_
  refine G.fix (d := 17) (v := .int .i64 ((xs.length / 256 : Nat) : Int)) (by show Value.int .i64 _ = _; exact congrArg _ (shr_i64 xs.length 8 (by decide))) ?_
  refine G.convInt rfl trivial rfl rfl Try.underlying3 Try.underlying5 rfl ?_
  refine G.fix (d := 18) (v := byteV (UInt8.ofNat (xs.length / 256))) (u8_ofN _) ?_
  refine G.moveI rfl trivial rfl rfl rfl ?_
  refine G.convInt rfl trivial rfl rfl Try.underlying3 Try.underlying5 rfl ?_
  refine G.fix (d := 20) (v := byteV (UInt8.ofNat xs.length)) (u8_ofN _) ?_
  refine G.buildSliceL (cs := [byteV (UInt8.ofNat (xs.length / 16777216)), byteV (UInt8.ofNat (xs.length / 65536)), byteV (UInt8.ofNat (xs.length / 256)), byteV (UInt8.ofNat xs.length)]) (zs := [(.int .u8 0), (.int .u8 0), (.int .u8 0), (.int .u8 0)]) rfl trivial rfl rfl Try.underlying34 I5 rfl (by kernel_rfl) rfl rfl ?_
  intro b21
  have hb4 : be 4 xs.length = [UInt8.ofNat (xs.length / 16777216), UInt8.ofNat (xs.length / 65536), UInt8.ofNat (xs.length / 256), UInt8.ofNat xs.length] := by show [_, _, _, UInt8.ofNat (xs.length / 1)] = _; rw [Nat.div_one]
  refine G.less (fun _ h => h.perm2) ?_
  refine G.call E25 rfl rfl trivial rfl rfl (lput_spec W0 _ bg bs bd g _ hsg0 (be 4 xs.length) _ 4 4 hbe.symm (by omega) (by omega) (fun _ => Rd.row0 (cs := bytesV (be 4 xs.length)) (by rw [hb4]; exact .app .here))) rfl ?_
  rintro e L2 ⟨s1, hs1, rfl, rfl⟩
  refine G.less (fun _ h => h.skip1) ?_
  refine G.nil ?_
  refine C.seq ?_
  refine C.region ?_
  refine G.moveP rfl trivial rfl rfl rfl ?_
  refine G.moveS rfl trivial rfl rfl rfl ?_
  refine G.call E25 rfl rfl trivial rfl rfl (lput_spec W0 L0 bg bs bd _ s1 hs1 xs a c xs.length rfl (by omega) (by rw [hbe]; show g.end_ + 4 + _ < _; omega) hr) rfl ?_
  rintro e L2 ⟨s2, hs2, rfl, rfl⟩
  obtain ⟨cs2, v2, es2, hcs2, hes2, rfl⟩ := hs2
  simp only [← putR_append, hbe] at hcs2 hes2 ⊢
  obtain ⟨a2, c2, rfl, hac2, hr2⟩ := hes2.form
  refine G.less (fun _ h => Mem.split1 h) ?_
  refine G.nil ?_
  refine C.seq ?_
  refine C.drawn mixed ([[(bg, .row (logRow bd bs cs2 g.base g.forced ((g.end_ + 4 + xs.length : Nat) : Int) (.slice a2 g.ends.length c2) g.bad) 66 65543)]]) [13] (fun _ h => Mem.only h.tail) ?_
  refine GA.pure (i := 0) (fun _ _ _ _ _ h => h) rfl (by kernel_rfl) trivial rfl rfl (Y.moveP rfl rfl) (#[true, false, false, false, false, false, false, false, false, false, false, false, false, false]) (by kernel_rfl) ?_
  refine GA.pure (i := 1) (fun _ _ _ _ _ h => h) rfl (by kernel_rfl) trivial rfl rfl (Y.moveP rfl rfl) (#[true, true, false, false, false, false, false, false, false, false, false, false, false, false]) (by kernel_rfl) ?_
  first | refine GA.pure (i := 2) (fun _ _ _ _ _ h => h) rfl (by kernel_rfl) trivial rfl rfl (Y.nilCheckP rfl rfl) (#[true, true, true, false, false, false, false, false, false, false, false, false, false, false]) (by kernel_rfl) ?_ | refine GA.pure (i := 2) (fun _ _ _ _ _ h => h) rfl (by kernel_rfl) trivial rfl rfl (Y.nilCheckF rfl rfl) (#[true, true, true, false, false, false, false, false, false, false, false, false, false, false]) (by kernel_rfl) ?_
  refine GA.pure (i := 3) (fun _ _ _ _ _ h => h) rfl (by kernel_rfl) trivial rfl rfl (Y.fieldAddr rfl Try.underlying66 rfl I64 rfl rfl) (#[true, true, true, true, false, false, false, false, false, false, false, false, false, false]) (by kernel_rfl) ?_
  refine GA.read (i := 4) (fun _ _ _ _ _ h => h) rfl (by kernel_rfl) (by kernel_rfl) trivial rfl rfl (Y.loadAt (v := .slice a2 g.ends.length c2) .here rfl Try.underlying64 rfl rfl (lr_ends hcs2.1)) (#[true, true, true, true, true, false, false, false, false, false, false, false, false, false]) (by kernel_rfl) ?_
  refine GA.pure (i := 5) (fun _ _ _ _ _ h => h) rfl (by kernel_rfl) trivial rfl rfl (Y.moveP rfl rfl) (#[true, true, true, true, true, true, false, false, false, false, false, false, false, false]) (by kernel_rfl) ?_
  first | refine GA.pure (i := 6) (fun _ _ _ _ _ h => h) rfl (by kernel_rfl) trivial rfl rfl (Y.nilCheckP rfl rfl) (#[true, true, true, true, true, true, true, false, false, false, false, false, false, false]) (by kernel_rfl) ?_ | refine GA.pure (i := 6) (fun _ _ _ _ _ h => h) rfl (by kernel_rfl) trivial rfl rfl (Y.nilCheckF rfl rfl) (#[true, true, true, true, true, true, true, false, false, false, false, false, false, false]) (by kernel_rfl) ?_
  refine GA.pure (i := 7) (fun _ _ _ _ _ h => h) rfl (by kernel_rfl) trivial rfl rfl (Y.fieldAddr rfl Try.underlying66 rfl I2 rfl rfl) (#[true, true, true, true, true, true, true, true, false, false, false, false, false, false]) (by kernel_rfl) ?_
  refine GA.read (i := 8) (fun _ _ _ _ _ h => h) rfl (by kernel_rfl) (by kernel_rfl) trivial rfl rfl (Y.loadAt (v := .int .i64 ((g.end_ + 4 + xs.length : Nat) : Int)) .here rfl Try.underlying2 rfl rfl (lr_end hcs2.1)) (#[true, true, true, true, true, true, true, true, true, false, false, false, false, false]) (by kernel_rfl) ?_
  refine GA.one (i := 9) rfl (by kernel_rfl) (#[true, true, true, true, true, true, true, true, true, true, false, false, false, false]) (by kernel_rfl) ?_
  refine G.buildSliceL (cs := [.int .i64 ((g.end_ + 4 + xs.length : Nat) : Int)]) (zs := [(.int .i64 0)]) rfl trivial rfl rfl Try.underlying64 I2 rfl (by kernel_rfl) rfl rfl ?_
  intro b56
  refine G.nil ?_
  refine ⟨fun _ _ h => (by first | exact Mem.only h.tail | exact Mem.only h.tail.tail), ?_⟩
  refine GA.one (i := 10) rfl (by kernel_rfl) (#[true, true, true, true, true, true, true, true, true, true, true, false, false, false]) (by kernel_rfl) ?_
  refine G.less (fun _ h => h.perm2) ?_
  refine G.appendT hes2 rfl trivial rfl rfl Try.underlying64 Try.underlying64 I2 rfl (by decide) rfl rfl (Rd.row0 (.next .here)) rfl (by decide) (by intro v hv; simp at hv; subst hv; rfl) (by omega) ?_
  intro v3 s3 hv3
  obtain ⟨a3, c3, rfl, _⟩ := hv3.form
  refine G.less (fun _ h => h.skip1) ?_
  refine G.nil ?_
  refine ⟨fun _ _ h => (by first | exact Mem.only h.tail | exact Mem.only h.tail.tail), ?_⟩
  first | refine GA.pure (i := 11) (fun _ _ _ _ _ h => h) rfl (by kernel_rfl) trivial rfl rfl (Y.nilCheckP rfl rfl) (#[true, true, true, true, true, true, true, true, true, true, true, true, false, false]) (by kernel_rfl) ?_ | refine GA.pure (i := 11) (fun _ _ _ _ _ h => h) rfl (by kernel_rfl) trivial rfl rfl (Y.nilCheckF rfl rfl) (#[true, true, true, true, true, true, true, true, true, true, true, true, false, false]) (by kernel_rfl) ?_
  refine GA.pure (i := 12) (fun _ _ _ _ _ h => h) rfl (by kernel_rfl) trivial rfl rfl (Y.fieldAddr rfl Try.underlying66 rfl I64 rfl rfl) (#[true, true, true, true, true, true, true, true, true, true, true, true, true, false]) (by kernel_rfl) ?_
  refine GA.one (i := 13) rfl (by kernel_rfl) (#[true, true, true, true, true, true, true, true, true, true, true, true, true, true]) (by kernel_rfl) ?_
  refine G.store (v := .slice a3 (g.ends.length + 1) c3) (.next .here) rfl trivial rfl I64 rfl rfl rfl (Nat.lt_of_lt_of_eq (by decide) (lr_length hcs2.1).symm) _ (lr_setEnds hcs2.1 _) ?_
  refine G.nil ?_
  refine ⟨fun _ h => absurd h (by simp [hit]), ?_⟩
  refine GA.done (by kernel_rfl) ?_
  refine C.seq ?_
  refine C.region ?_
  refine G.moveP rfl trivial rfl rfl rfl ?_
  first | refine G.nilCheckP rfl trivial rfl rfl rfl ?_ | refine G.nilCheckF rfl trivial rfl rfl rfl ?_
  refine G.fieldAddr rfl trivial rfl rfl Try.underlying66 rfl I2 rfl rfl ?_
  refine G.loadAt (v := .int .i64 ((g.end_ + 4 + xs.length : Nat) : Int)) (.next .here) rfl trivial rfl rfl Try.underlying2 rfl rfl (lr_end hcs2.1) ?_
  refine G.assignI rfl trivial rfl rfl rfl ?_
  refine G.assignI rfl trivial rfl rfl rfl ?_
  refine G.nil ?_
  refine C.less (fun _ h => Mem.join1 h) ?_
  refine C.ret ?_
  -- end 
  exact ⟨rfl, _, Res.of (rs := [.tmp 4, .tmp 5]) rfl rfl, _, ⟨cs2, _, s3, hcs2, by simpa [Lg.app, placesV, Nat.add_assoc, Nat.add_comm 4] using hv3, by simp only [Lg.app, Nat.add_assoc, Nat.add_comm 4]⟩, rfl, by rw [Nat.add_comm xs.length 4, ← Nat.add_assoc]; rfl⟩
end
end Go.Proofs.Ytjfjmhmfhkdcbab
