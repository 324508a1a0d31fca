/-
  The library's sort of whole numbers: cmp.Less, and the sort of few elements, walked: they do what the plain functions of the kit's text on the sort do.
-/
import Derived.Test.YtomiidlbfcfpiaaSLI
import Derived.Test.YtomiidlbfcfpiaaSLA
import Derived.Test.YtomiidlbfcfpiaaSLS
import Derived.Test.YtomiidlbfcfpiaaTy
import Derived.Sort.AssemblyPlain
namespace Go.Proofs.Ytomiidlbfcfpiaa
open Go Go.SL Go.RowKit Go.Sort

theorem insInner_go {a j : Nat} {d : Array Int} (h : a < j) (hl : d[j]! < d[j - 1]!) : insInner ltInt a j d = insInner ltInt a (j - 1) (swp d j (j - 1)) := by
  obtain ⟨k, rfl⟩ : ∃ k, j = k + 1 := ⟨j - 1, by omega⟩
  rw [Nat.add_sub_cancel] at hl ⊢
  conv => lhs; unfold insInner
  rw [if_pos]
  simp only [ltInt, Bool.and_eq_true, decide_eq_true_eq]
  exact ⟨h, hl⟩
theorem insInner_end {a j : Nat} {d : Array Int} (h : ¬ (a < j ∧ d[j]! < d[j - 1]!)) : insInner ltInt a j d = d := by
  cases j with
  | zero => rfl
  | succ k =>
    rw [Nat.add_sub_cancel] at h
    unfold insInner
    rw [if_neg]
    simp only [ltInt, Bool.and_eq_true, decide_eq_true_eq]
    exact h
theorem insOuter_go {a b i : Nat} {d : Array Int} (h : i < b) : insOuter ltInt a b i d = insOuter ltInt a b (i + 1) (insInner ltInt a i d) := by
  conv => lhs; unfold insOuter
  rw [if_pos h]
theorem insOuter_end {a b i : Nat} {d : Array Int} (h : ¬ i < b) : insOuter ltInt a b i d = d := by
  unfold insOuter
  rw [if_neg h]
/-- what a function of the sort is: it leaves the row as said -/
def Sorts (W0 : World) (f : FuncId) (args : Array Value) (L L' : List Seg) : Prop := FnS Try.prog W0 f args L (fun e L1 => L1 = L' ∧ e = .returned (.tuple #[]))
section sort
variable (W0 : World)
theorem isNaN_spec (L : List Seg) (x : Int) : FnS Try.prog W0 72 #[.int .i64 x] L (fun e L' => L' = L ∧ e = .returned (.bool false)) := by
  refine FnS.of (args := [.int .i64 x]) Try.func72 rfl rfl ?_
  refine C.seq ?_
  refine C.region ?_
  refine G.assignB rfl trivial rfl rfl rfl ?_
  refine G.nil ?_
  refine C.seq ?_
  refine C.region ?_
  refine G.moveI rfl trivial rfl rfl rfl ?_
  refine G.moveI rfl trivial rfl rfl rfl ?_
  refine G.bin rfl trivial rfl rfl rfl rfl rfl ?_
  refine G.assignB rfl trivial rfl rfl rfl ?_
  refine G.nil ?_
  refine C.ret ?_
  -- end 
  exact ⟨rfl, _, Res.of (rs := [.tmp 2]) rfl rfl, rfl, by show Ending.returned (Value.bool (decide (x ≠ x))) = _; simp⟩
theorem less_spec (L : List Seg) (x y : Int) : FnS Try.prog W0 60 #[.int .i64 x, .int .i64 y] L (fun e L' => L' = L ∧ e = .returned (.bool (decide (x < y)))) := by
  refine FnS.of (args := [.int .i64 x, .int .i64 y]) Try.func60 rfl rfl ?_
  refine C.seq ?_
  refine C.region ?_
  refine G.assignB rfl trivial rfl rfl rfl ?_
  refine G.nil ?_
  refine C.seq ?_
  refine C.region ?_
  refine G.moveI rfl trivial rfl rfl rfl ?_
  refine G.call E72 rfl rfl trivial rfl rfl (isNaN_spec W0 _ x) rfl ?_
  rintro e L2 ⟨rfl, rfl⟩
  refine G.moveB rfl trivial rfl rfl rfl ?_
  refine G.skip rfl rfl rfl rfl rfl rfl ?_
  refine G.skip rfl rfl rfl rfl rfl rfl ?_
  refine G.skip rfl rfl rfl rfl rfl rfl ?_
  first | refine G.pickT rfl trivial rfl rfl rfl rfl ?_ | refine G.pickF rfl trivial rfl rfl rfl rfl ?_
  refine G.moveB rfl trivial rfl rfl rfl ?_
  refine G.moveI rfl ⟨_, rfl, rfl, rfl⟩ rfl rfl rfl ?_
  refine G.moveI rfl ⟨_, rfl, rfl, rfl⟩ rfl rfl rfl ?_
  refine G.bin rfl ⟨_, rfl, rfl, rfl⟩ rfl rfl rfl rfl rfl ?_
  first | refine G.pickT rfl trivial rfl rfl rfl rfl ?_ | refine G.pickF rfl trivial rfl rfl rfl rfl ?_
  refine G.assignB rfl trivial rfl rfl rfl ?_
  refine G.nil ?_
  refine C.ret ?_
  -- end 
  exact ⟨rfl, _, Res.of (rs := [.tmp 4]) rfl rfl, rfl, rfl⟩
variable {bk : Nat} {o0 : SObj} {L0 : List Seg} {u : Nat → SObj → List Seg} (ha : At L0 bk o0 u) (te : TypeId) (kk n cap : Nat) (rest : List Value) (hn : n ≤ 4611686018427387904)
include ha hn
theorem insertion_spec (d : Array Int) (hd : d.size = n) (a b : Nat) (hab : a ≤ b) (hb : b ≤ n) :
    Sorts W0 54 #[.slice (some ⟨bk, 0, none⟩) n cap, .int .i64 a, .int .i64 b] (u bk (.row (ic d rest) te kk)) (u bk (.row (ic (insertionSort ltInt d a b) rest) te kk)) := by
  unfold Sorts
  refine FnS.of (args := [.slice (some ⟨bk, 0, none⟩) n cap, .int .i64 (a : Int), .int .i64 (b : Int)]) Try.func54 rfl rfl ?_
  refine C.seq ?_
  refine C.region ?_
  refine G.moveI rfl trivial rfl rfl rfl ?_
  refine G.addN (j := 1) rfl trivial rfl rfl rfl rfl (by omega) ?_
  refine G.assignI rfl trivial rfl rfl rfl ?_
  refine G.nil ?_
  refine C.block ?_
  refine C.loop (fun m F D' L' => ∃ (i : Nat) (e : Array Int), m = b - i ∧ a + 1 ≤ i ∧ (i ≤ b ∨ i = a + 1) ∧ e.size = n ∧ insOuter ltInt a b i e = insertionSort ltInt d a b ∧ F 0 = .slice (some ⟨bk, 0, none⟩) n cap ∧ F 1 = .int .i64 (a : Int) ∧ F 2 = .int .i64 (b : Int) ∧ F 6 = .int .i64 (i : Int) ∧ D' = [] ∧ u bk (.row (ic e rest) te kk) = L') ⟨_, ⟨a + 1, d, rfl, by omega, .inr rfl, hd, rfl, rfl, rfl, rfl, rfl, rfl, rfl⟩⟩ ?_
  rintro m F D' L' ⟨i, e, rfl, hai, hib, he, hio, h0, h1, h2, h6, rfl, rfl⟩
  refine C.fix (d := 0) h0 ?_
  refine C.fix (d := 1) h1 ?_
  refine C.fix (d := 2) h2 ?_
  refine C.fix (d := 6) h6 ?_
  refine C.seq ?_
  refine C.seq ?_
  refine C.region ?_
  refine G.moveI rfl trivial rfl rfl rfl ?_
  refine G.moveI rfl trivial rfl rfl rfl ?_
  refine G.bin rfl trivial rfl rfl rfl rfl rfl ?_
  refine G.nil ?_
  refine C.cond _ rfl ?_ ?_
  · intro hc0
    have hlt : i < b := by omega
    refine C.skip ?_
    refine C.seq ?_
    refine C.block ?_
    refine C.seq ?_
    refine C.region ?_
    refine G.moveI rfl trivial rfl rfl rfl ?_
    refine G.assignI rfl trivial rfl rfl rfl ?_
    refine G.nil ?_
    refine C.block ?_
    refine C.loop (fun m F D' L' => ∃ (j : Nat) (e1 : Array Int), m = j + 1 ∧ a ≤ j ∧ j ≤ i ∧ e1.size = n ∧ insInner ltInt a j e1 = insInner ltInt a i e ∧ F 0 = .slice (some ⟨bk, 0, none⟩) n cap ∧ F 1 = .int .i64 (a : Int) ∧ F 2 = .int .i64 (b : Int) ∧ F 6 = .int .i64 (i : Int) ∧ F 7 = .int .i64 (j : Int) ∧ D' = [] ∧ u bk (.row (ic e1 rest) te kk) = L') ⟨_, ⟨i, e, rfl, by omega, by omega, he, rfl, rfl, rfl, rfl, rfl, rfl, rfl, rfl⟩⟩ ?_
    rintro m F D' L' ⟨j, e1, rfl, haj, hji, he1, hin, h0, h1, h2, h6, h7, rfl, rfl⟩
    refine C.fix (d := 0) h0 ?_
    refine C.fix (d := 1) h1 ?_
    refine C.fix (d := 2) h2 ?_
    refine C.fix (d := 6) h6 ?_
    refine C.fix (d := 7) h7 ?_
    refine C.seq ?_
    refine C.seq ?_
    refine C.drawn mixed (_) [] (fun _ h => h) ?_
    refine GA.pure (i := 0) (fun _ _ _ _ _ h => h) rfl (by kernel_rfl) trivial rfl rfl (Y.moveI rfl rfl) (#[true, false, false, false, false, false, false, false, false, false, false, false, false, false, false]) (by kernel_rfl) ?_
    refine GA.pure (i := 1) (fun _ _ _ _ _ h => h) rfl (by kernel_rfl) trivial rfl rfl (Y.moveI rfl rfl) (#[true, true, false, false, false, false, false, false, false, false, false, false, false, false, false]) (by kernel_rfl) ?_
    refine GA.pure (i := 2) (fun _ _ _ _ _ h => h) rfl (by kernel_rfl) trivial rfl rfl (Y.bin rfl rfl rfl rfl) (#[true, true, true, false, false, false, false, false, false, false, false, false, false, false, false]) (by kernel_rfl) ?_
    refine GA.pure (i := 3) (fun _ _ _ _ _ h => h) rfl (by kernel_rfl) trivial rfl rfl (Y.moveB rfl rfl) (#[true, true, true, true, false, false, false, false, false, false, false, false, false, false, false]) (by kernel_rfl) ?_
    refine GA.fork (t := 19) _ rfl ?_ ?_
    · intro hg19
      refine GA.pure (i := 4) (fun _ _ _ _ _ h => h) rfl (by kernel_rfl) ⟨_, rfl, rfl, rfl⟩ rfl rfl (Y.moveS rfl rfl) (#[true, true, true, true, true, false, false, false, false, false, false, false, false, false, false]) (by kernel_rfl) ?_
      refine GA.pure (i := 5) (fun _ _ _ _ _ h => h) rfl (by kernel_rfl) ⟨_, rfl, rfl, rfl⟩ rfl rfl (Y.moveI rfl rfl) (#[true, true, true, true, true, true, false, false, false, false, false, false, false, false, false]) (by kernel_rfl) ?_
      refine GA.pure (i := 6) (fun _ _ _ _ _ h => h) rfl (by kernel_rfl) ⟨_, rfl, rfl, rfl⟩ rfl rfl (Y.idxN rfl Try.underlying27 I2 rfl rfl (by omega)) (#[true, true, true, true, true, true, true, false, false, false, false, false, false, false, false]) (by kernel_rfl) ?_
      refine GA.read (i := 7) (fun _ _ _ _ _ h => h) rfl (by kernel_rfl) (by kernel_rfl) ⟨_, rfl, rfl, rfl⟩ rfl rfl (Y.ldI (by first | exact ha.again _ | exact .next (ha.again _) | exact .next (.next (ha.again _))) rfl Try.underlying2 rfl rfl (by omega)) (#[true, true, true, true, true, true, true, true, false, false, false, false, false, false, false]) (by kernel_rfl) ?_
      refine GA.pure (i := 8) (fun _ _ _ _ _ h => h) rfl (by kernel_rfl) ⟨_, rfl, rfl, rfl⟩ rfl rfl (Y.moveS rfl rfl) (#[true, true, true, true, true, true, true, true, true, false, false, false, false, false, false]) (by kernel_rfl) ?_
      refine GA.pure (i := 9) (fun _ _ _ _ _ h => h) rfl (by kernel_rfl) ⟨_, rfl, rfl, rfl⟩ rfl rfl (Y.moveI rfl rfl) (#[true, true, true, true, true, true, true, true, true, true, false, false, false, false, false]) (by kernel_rfl) ?_
      refine GA.pure (i := 10) (fun _ _ _ _ _ h => h) rfl (by kernel_rfl) ⟨_, rfl, rfl, rfl⟩ rfl rfl (Y.subN (j := 1) rfl rfl rfl (by omega)) (#[true, true, true, true, true, true, true, true, true, true, true, false, false, false, false]) (by kernel_rfl) ?_
      refine GA.pure (i := 11) (fun _ _ _ _ _ h => h) rfl (by kernel_rfl) ⟨_, rfl, rfl, rfl⟩ rfl rfl (Y.idxN rfl Try.underlying27 I2 rfl rfl (by omega)) (#[true, true, true, true, true, true, true, true, true, true, true, true, false, false, false]) (by kernel_rfl) ?_
      refine GA.read (i := 12) (fun _ _ _ _ _ h => h) rfl (by kernel_rfl) (by kernel_rfl) ⟨_, rfl, rfl, rfl⟩ rfl rfl (Y.ldI (by first | exact ha.again _ | exact .next (ha.again _) | exact .next (.next (ha.again _))) rfl Try.underlying2 rfl rfl (by omega)) (#[true, true, true, true, true, true, true, true, true, true, true, true, true, false, false]) (by kernel_rfl) ?_
      refine GA.one (i := 13) rfl (by kernel_rfl) (#[true, true, true, true, true, true, true, true, true, true, true, true, true, true, false]) (by kernel_rfl) ?_
      refine G.call E60 rfl rfl ⟨_, rfl, rfl, rfl⟩ rfl rfl (less_spec W0 _ _ _) rfl ?_
      rintro e L2 ⟨rfl, rfl⟩
      refine G.nil ?_
      refine ⟨fun _ _ h => h, ?_⟩
      first | refine GA.pure (i := 14) (fun _ _ _ _ _ h => h) rfl (by kernel_rfl) trivial rfl rfl (Y.pickT rfl rfl rfl) (#[true, true, true, true, true, true, true, true, true, true, true, true, true, true, true]) (by kernel_rfl) ?_ | refine GA.pure (i := 14) (fun _ _ _ _ _ h => h) rfl (by kernel_rfl) trivial rfl rfl (Y.pickF rfl rfl rfl) (#[true, true, true, true, true, true, true, true, true, true, true, true, true, true, true]) (by kernel_rfl) ?_
      refine GA.done (by kernel_rfl) ?_
      refine C.cond _ rfl ?_ ?_
      · intro hc1
        refine C.skip ?_
        refine C.seq ?_
        refine C.block ?_
        refine C.drawn mixed (_) [15, 17] (fun _ h => h) ?_
        refine GA.pure (i := 0) (fun _ _ _ _ _ h => h) rfl (by kernel_rfl) trivial rfl rfl (Y.moveS rfl rfl) (#[true, false, false, false, false, false, false, false, false, false, false, false, false, false, false, false, false, false]) (by kernel_rfl) ?_
        refine GA.pure (i := 1) (fun _ _ _ _ _ h => h) rfl (by kernel_rfl) trivial rfl rfl (Y.moveI rfl rfl) (#[true, true, false, false, false, false, false, false, false, false, false, false, false, false, false, false, false, false]) (by kernel_rfl) ?_
        refine GA.pure (i := 2) (fun _ _ _ _ _ h => h) rfl (by kernel_rfl) trivial rfl rfl (Y.moveS rfl rfl) (#[true, true, true, false, false, false, false, false, false, false, false, false, false, false, false, false, false, false]) (by kernel_rfl) ?_
        refine GA.pure (i := 3) (fun _ _ _ _ _ h => h) rfl (by kernel_rfl) trivial rfl rfl (Y.moveI rfl rfl) (#[true, true, true, true, false, false, false, false, false, false, false, false, false, false, false, false, false, false]) (by kernel_rfl) ?_
        refine GA.pure (i := 4) (fun _ _ _ _ _ h => h) rfl (by kernel_rfl) trivial rfl rfl (Y.subN (j := 1) rfl rfl rfl (by omega)) (#[true, true, true, true, true, false, false, false, false, false, false, false, false, false, false, false, false, false]) (by kernel_rfl) ?_
        refine GA.pure (i := 5) (fun _ _ _ _ _ h => h) rfl (by kernel_rfl) trivial rfl rfl (Y.moveS rfl rfl) (#[true, true, true, true, true, true, false, false, false, false, false, false, false, false, false, false, false, false]) (by kernel_rfl) ?_
        refine GA.pure (i := 6) (fun _ _ _ _ _ h => h) rfl (by kernel_rfl) trivial rfl rfl (Y.moveI rfl rfl) (#[true, true, true, true, true, true, true, false, false, false, false, false, false, false, false, false, false, false]) (by kernel_rfl) ?_
        refine GA.pure (i := 7) (fun _ _ _ _ _ h => h) rfl (by kernel_rfl) trivial rfl rfl (Y.subN (j := 1) rfl rfl rfl (by omega)) (#[true, true, true, true, true, true, true, true, false, false, false, false, false, false, false, false, false, false]) (by kernel_rfl) ?_
        refine GA.pure (i := 8) (fun _ _ _ _ _ h => h) rfl (by kernel_rfl) trivial rfl rfl (Y.idxN rfl Try.underlying27 I2 rfl rfl (by omega)) (#[true, true, true, true, true, true, true, true, true, false, false, false, false, false, false, false, false, false]) (by kernel_rfl) ?_
        refine GA.read (i := 9) (fun _ _ _ _ _ h => h) rfl (by kernel_rfl) (by kernel_rfl) trivial rfl rfl (Y.ldI (by first | exact ha.again _ | exact .next (ha.again _) | exact .next (.next (ha.again _))) rfl Try.underlying2 rfl rfl (by omega)) (#[true, true, true, true, true, true, true, true, true, true, false, false, false, false, false, false, false, false]) (by kernel_rfl) ?_
        refine GA.pure (i := 10) (fun _ _ _ _ _ h => h) rfl (by kernel_rfl) trivial rfl rfl (Y.moveS rfl rfl) (#[true, true, true, true, true, true, true, true, true, true, true, false, false, false, false, false, false, false]) (by kernel_rfl) ?_
        refine GA.pure (i := 11) (fun _ _ _ _ _ h => h) rfl (by kernel_rfl) trivial rfl rfl (Y.moveI rfl rfl) (#[true, true, true, true, true, true, true, true, true, true, true, true, false, false, false, false, false, false]) (by kernel_rfl) ?_
        refine GA.pure (i := 12) (fun _ _ _ _ _ h => h) rfl (by kernel_rfl) trivial rfl rfl (Y.idxN rfl Try.underlying27 I2 rfl rfl (by omega)) (#[true, true, true, true, true, true, true, true, true, true, true, true, true, false, false, false, false, false]) (by kernel_rfl) ?_
        refine GA.read (i := 13) (fun _ _ _ _ _ h => h) rfl (by kernel_rfl) (by kernel_rfl) trivial rfl rfl (Y.ldI (by first | exact ha.again _ | exact .next (ha.again _) | exact .next (.next (ha.again _))) rfl Try.underlying2 rfl rfl (by omega)) (#[true, true, true, true, true, true, true, true, true, true, true, true, true, true, false, false, false, false]) (by kernel_rfl) ?_
        refine GA.pure (i := 14) (fun _ _ _ _ _ h => h) rfl (by kernel_rfl) trivial rfl rfl (Y.idxN rfl Try.underlying27 I2 rfl rfl (by omega)) (#[true, true, true, true, true, true, true, true, true, true, true, true, true, true, true, false, false, false]) (by kernel_rfl) ?_
        refine GA.one (i := 15) rfl (by kernel_rfl) (#[true, true, true, true, true, true, true, true, true, true, true, true, true, true, true, true, false, false]) (by kernel_rfl) ?_
        refine G.stI (by first | exact ha.again _ | exact .next (ha.again _) | exact .next (.next (ha.again _))) rfl trivial rfl I2 rfl rfl (by first | omega | (simp only [Array.size_setIfInBounds]; omega)) ?_
        refine G.nil ?_
        refine ⟨fun _ h => absurd h (by simp [hit]), ?_⟩
        refine GA.pure (i := 16) (fun _ _ _ _ _ h => h) rfl (by kernel_rfl) trivial rfl rfl (Y.idxN rfl Try.underlying27 I2 rfl rfl (by omega)) (#[true, true, true, true, true, true, true, true, true, true, true, true, true, true, true, true, true, false]) (by kernel_rfl) ?_
        refine GA.one (i := 17) rfl (by kernel_rfl) (#[true, true, true, true, true, true, true, true, true, true, true, true, true, true, true, true, true, true]) (by kernel_rfl) ?_
        refine G.stI (by first | exact ha.again _ | exact .next (ha.again _) | exact .next (.next (ha.again _))) rfl trivial rfl I2 rfl rfl (by first | omega | (simp only [Array.size_setIfInBounds]; omega)) ?_
        refine G.nil ?_
        refine ⟨fun _ h => absurd h (by simp [hit]), ?_⟩
        refine GA.done (by kernel_rfl) ?_
        refine C.region ?_
        refine G.moveI rfl trivial rfl rfl rfl ?_
        refine G.subN (j := 1) rfl trivial rfl rfl rfl rfl (by omega) ?_
        refine G.assignI rfl trivial rfl rfl rfl ?_
        refine G.nil ?_
        refine ⟨j - 1 + 1, by omega, j - 1, swp e1 j (j - 1), rfl, by omega, by omega, by rw [swp_size]; exact he1, ?_, rfl, rfl, rfl, rfl, rfl, rfl, rfl⟩
        rw [← hin]
        exact (insInner_go (by omega) (by assumption)).symm
      · intro hc1
        refine C.exit ?_
        refine C.region ?_
        refine G.moveI rfl trivial rfl rfl rfl ?_
        refine G.addN (j := 1) rfl trivial rfl rfl rfl rfl (by omega) ?_
        refine G.assignI rfl trivial rfl rfl rfl ?_
        refine G.nil ?_
        have hst : e1 = insInner ltInt a i e := by
          rw [← hin]
          exact (insInner_end (fun h => by first | exact absurd h.2 (by assumption) | exact absurd h.1 (by omega))).symm
        refine ⟨b - (i + 1), by omega, i + 1, e1, rfl, by omega, by omega, he1, ?_, rfl, rfl, rfl, rfl, rfl, rfl⟩
        rw [hst, ← insOuter_go (by omega)]
        exact hio
    · intro hg19
      refine GA.skip (i := 4) (fun _ _ _ _ _ h => h) rfl (by kernel_rfl) rfl rfl rfl rfl rfl rfl (#[true, true, true, true, true, false, false, false, false, false, false, false, false, false, false]) (by kernel_rfl) ?_
      refine GA.skip (i := 5) (fun _ _ _ _ _ h => h) rfl (by kernel_rfl) rfl rfl rfl rfl rfl rfl (#[true, true, true, true, true, true, false, false, false, false, false, false, false, false, false]) (by kernel_rfl) ?_
      refine GA.skip (i := 6) (fun _ _ _ _ _ h => h) rfl (by kernel_rfl) rfl rfl rfl rfl rfl rfl (#[true, true, true, true, true, true, true, false, false, false, false, false, false, false, false]) (by kernel_rfl) ?_
      refine GA.skip (i := 7) (fun _ _ _ _ _ h => h) rfl (by kernel_rfl) rfl rfl rfl rfl rfl rfl (#[true, true, true, true, true, true, true, true, false, false, false, false, false, false, false]) (by kernel_rfl) ?_
      refine GA.skip (i := 8) (fun _ _ _ _ _ h => h) rfl (by kernel_rfl) rfl rfl rfl rfl rfl rfl (#[true, true, true, true, true, true, true, true, true, false, false, false, false, false, false]) (by kernel_rfl) ?_
      refine GA.skip (i := 9) (fun _ _ _ _ _ h => h) rfl (by kernel_rfl) rfl rfl rfl rfl rfl rfl (#[true, true, true, true, true, true, true, true, true, true, false, false, false, false, false]) (by kernel_rfl) ?_
      refine GA.skip (i := 10) (fun _ _ _ _ _ h => h) rfl (by kernel_rfl) rfl rfl rfl rfl rfl rfl (#[true, true, true, true, true, true, true, true, true, true, true, false, false, false, false]) (by kernel_rfl) ?_
      refine GA.skip (i := 11) (fun _ _ _ _ _ h => h) rfl (by kernel_rfl) rfl rfl rfl rfl rfl rfl (#[true, true, true, true, true, true, true, true, true, true, true, true, false, false, false]) (by kernel_rfl) ?_
      refine GA.skip (i := 12) (fun _ _ _ _ _ h => h) rfl (by kernel_rfl) rfl rfl rfl rfl rfl rfl (#[true, true, true, true, true, true, true, true, true, true, true, true, true, false, false]) (by kernel_rfl) ?_
      refine GA.skip (i := 13) (fun _ _ _ _ _ h => h) rfl (by kernel_rfl) rfl rfl rfl rfl rfl rfl (#[true, true, true, true, true, true, true, true, true, true, true, true, true, true, false]) (by kernel_rfl) ?_
      first | refine GA.pure (i := 14) (fun _ _ _ _ _ h => h) rfl (by kernel_rfl) trivial rfl rfl (Y.pickT rfl rfl rfl) (#[true, true, true, true, true, true, true, true, true, true, true, true, true, true, true]) (by kernel_rfl) ?_ | refine GA.pure (i := 14) (fun _ _ _ _ _ h => h) rfl (by kernel_rfl) trivial rfl rfl (Y.pickF rfl rfl rfl) (#[true, true, true, true, true, true, true, true, true, true, true, true, true, true, true]) (by kernel_rfl) ?_
      refine GA.done (by kernel_rfl) ?_
      refine C.condF rfl ?_
      refine C.exit ?_
      refine C.region ?_
      refine G.moveI rfl trivial rfl rfl rfl ?_
      refine G.addN (j := 1) rfl trivial rfl rfl rfl rfl (by omega) ?_
      refine G.assignI rfl trivial rfl rfl rfl ?_
      refine G.nil ?_
      have hst : e1 = insInner ltInt a i e := by
        rw [← hin]
        exact (insInner_end (fun h => by first | exact absurd h.2 (by assumption) | exact absurd h.1 (by omega))).symm
      refine ⟨b - (i + 1), by omega, i + 1, e1, rfl, by omega, by omega, he1, ?_, rfl, rfl, rfl, rfl, rfl, rfl⟩
      rw [hst, ← insOuter_go (by omega)]
      exact hio
  · intro hc0
    refine C.exit ?_
    -- end c0F
    exact ⟨rfl, _, Res.of (rs := []) rfl rfl, by rw [← hio, insOuter_end (by omega)], rfl⟩
end sort
end Go.Proofs.Ytomiidlbfcfpiaa
