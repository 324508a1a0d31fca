/-
  The library's sort of whole numbers, walked: the row behind it holds what it held, in order.
-/
import Derived.Test.YtomiidlbfcfpiaaSr5
namespace Go.Proofs.Ytomiidlbfcfpiaa
open Go Go.SL Go.RowKit Go.Sort

/-- the numbers in order -/
def sortL (l : List Int) : List Int := l.mergeSort (fun x y => decide (x ≤ y))
theorem sorted_is {d d' : Array Int} (h1 : PermIn 0 d.size d d') (h2 : SortedIn ltInt 0 d.size d') : d'.toList = sortL d.toList := by
  have h := sorted_unique_holds (lt := ltInt) swo_ltInt (fun x y h1 h2 => by simp [ltInt] at h1 h2; omega) d d' h1 h2
  rw [h]
  unfold sortL
  congr 1
  funext x y
  simp only [ltInt]
  by_cases hxy : x ≤ y
  · rw [decide_eq_true hxy, decide_eq_false (by omega)]; rfl
  · rw [decide_eq_false hxy, decide_eq_true (by omega)]; rfl
section sort
variable (W0 : World) {bk : Nat} {o0 : SObj} {L0 : List Seg} {u : Nat → SObj → List Seg} (ha : At L0 bk o0 u) (te : TypeId) (kk n cap : Nat) (rest : List Value) (hn : n ≤ 2305843009213693952)
include ha hn
theorem pdq_spec : ∀ (N : Nat) (d : Array Int) (hd : d.size = n) (a b lim : Nat) (hN : b - a < N) (hab : a ≤ b) (hb : b ≤ n) (hlim : lim ≤ 1000) (hB : Below ltInt a b d),
    FnS Try.prog W0 38 #[.slice (some ⟨bk, 0, none⟩) n cap, .int .i64 a, .int .i64 b, .int .i64 lim] (u bk (.row (ic d rest) te kk))
      (fun e L' => ∃ d' : Array Int, PermIn a b d d' ∧ SortedIn ltInt a b d' ∧ L' = u bk (.row (ic d' rest) te kk) ∧ e = .returned (.tuple #[])) := by
  intro N
  induction N with
  | zero => intro d hd a b lim hN; omega
  | succ N ih =>
  intro d hd a b lim hN hab hb hlim hB
  refine FnS.of (args := [.slice (some ⟨bk, 0, none⟩) n cap, .int .i64 (a : Int), .int .i64 (b : Int), .int .i64 (lim : Int)]) Try.func38 rfl rfl ?_
  refine C.seq ?_
  refine C.region ?_
  refine G.assignB rfl trivial rfl rfl rfl ?_
  refine G.nil ?_
  refine C.seq ?_
  refine C.region ?_
  refine G.assignB rfl trivial rfl rfl rfl ?_
  refine G.nil ?_
  refine C.block ?_
  refine C.loop (fun m F D' L' => ∃ (a1 b1 lim1 : Nat) (wb wp : Bool) (e : Array Int), m = b1 - a1 + 0 ∧ b1 - a1 < N + 1 ∧ a1 ≤ b1 ∧ b1 ≤ n ∧ lim1 ≤ 1000 ∧ e.size = n ∧ Below ltInt a1 b1 e ∧ (∀ R, PermIn a1 b1 e R → SortedIn ltInt a1 b1 R → PermIn a b d R ∧ SortedIn ltInt a b R) ∧ F 0 = .slice (some ⟨bk, 0, none⟩) n cap ∧ F 1 = .int .i64 (a1 : Int) ∧ F 2 = .int .i64 (b1 : Int) ∧ F 3 = .int .i64 (lim1 : Int) ∧ F 8 = .bool wb ∧ F 9 = .bool wp ∧ D' = [] ∧ u bk (.row (ic e rest) te kk) = L') ⟨_, ⟨a, b, lim, true, true, d, rfl, hN, hab, hb, hlim, hd, hB, fun R h1 h2 => ⟨h1, h2⟩, rfl, rfl, rfl, rfl, rfl, rfl, rfl, rfl⟩⟩ ?_
  rintro m F D' L' ⟨a1, b1, lim1, wb, wp, e, rfl, hN1, hab1, hb1, hlim1, he, hB1, hall, h0, h1, h2, h3, h8, h9, rfl, rfl⟩
  refine C.fix (d := 0) h0 ?_
  refine C.fix (d := 1) h1 ?_
  refine C.fix (d := 2) h2 ?_
  refine C.fix (d := 3) h3 ?_
  refine C.fix (d := 8) h8 ?_
  refine C.fix (d := 9) h9 ?_
  refine C.block ?_
  refine C.seq ?_
  refine C.region ?_
  refine G.moveI rfl trivial rfl rfl rfl ?_
  refine G.moveI rfl trivial rfl rfl rfl ?_
  refine G.subN rfl trivial rfl rfl rfl rfl (by omega) ?_
  refine G.assignI rfl trivial rfl rfl rfl ?_
  refine G.nil ?_
  refine C.seq ?_
  refine C.seq ?_
  refine C.region ?_
  refine G.moveI rfl trivial rfl rfl rfl ?_
  refine G.bin rfl trivial rfl rfl rfl rfl rfl ?_
  refine G.nil ?_
  refine C.cond _ rfl ?_ ?_
  · intro hc0
    refine C.seq ?_
    refine C.region ?_
    refine G.moveS rfl trivial rfl rfl rfl ?_
    refine G.moveI rfl trivial rfl rfl rfl ?_
    refine G.moveI rfl trivial rfl rfl rfl ?_
    refine G.call E54 rfl rfl trivial rfl rfl (insertion_spec W0 ha te kk n cap rest (by omega) e he a1 b1 hab1 hb1) rfl ?_
    rintro e L2 ⟨rfl, rfl⟩
    refine G.nil ?_
    refine C.ret ?_
    -- end c0T
    have hi := insertionSort_holds swo_ltInt e a1 b1 hab1 (by omega)
    obtain ⟨q1, q2⟩ := hall _ hi.1 hi.2
    exact ⟨rfl, _, Res.of (rs := []) rfl rfl, _, q1, q2, rfl, rfl⟩
  · intro hc0
    refine C.skip ?_
    refine C.seq ?_
    refine C.seq ?_
    refine C.region ?_
    refine G.moveI rfl trivial rfl rfl rfl ?_
    refine G.bin rfl trivial rfl rfl rfl rfl rfl ?_
    refine G.nil ?_
    refine C.cond _ rfl ?_ ?_
    · intro hc1
      refine C.seq ?_
      refine C.region ?_
      refine G.moveS rfl trivial rfl rfl rfl ?_
      refine G.moveI rfl trivial rfl rfl rfl ?_
      refine G.moveI rfl trivial rfl rfl rfl ?_
      refine G.call E55 rfl rfl trivial rfl rfl (heap_spec W0 ha te kk n cap rest hn e he a1 b1 (by omega) hb1) rfl ?_
      rintro e L2 ⟨rfl, rfl⟩
      refine G.nil ?_
      refine C.ret ?_
      -- end c0Fc1T
      have hi := heapSort_holds swo_ltInt e a1 b1 hab1 (by omega)
      obtain ⟨q1, q2⟩ := hall _ hi.1 hi.2
      exact ⟨rfl, _, Res.of (rs := []) rfl rfl, _, q1, q2, rfl, rfl⟩
    · intro hc1
      refine C.skip ?_
      refine C.cut (fun F D' L' => ∃ (lim2 : Nat) (e1 : Array Int), lim2 ≤ 1000 ∧ PermIn a1 b1 e e1 ∧ F 0 = .slice (some ⟨bk, 0, none⟩) n cap ∧ F 1 = .int .i64 (a1 : Int) ∧ F 2 = .int .i64 (b1 : Int) ∧ F 3 = .int .i64 (lim2 : Int) ∧ F 8 = .bool wb ∧ F 9 = .bool wp ∧ F 10 = .int .i64 ((b1 - a1 : Nat) : Int) ∧ D' = [] ∧ u bk (.row (ic e1 rest) te kk) = L') ?_ ?_
      ·
        refine C.seq ?_
        refine C.region ?_
        refine G.moveB rfl trivial rfl rfl rfl ?_
        first | refine G.notD rfl trivial rfl rfl rfl ?_ | refine G.not rfl trivial rfl rfl rfl ?_
        refine G.nil ?_
        refine C.condB _ rfl ?_ ?_
        · intro hc2
          refine C.seq ?_
          refine C.region ?_
          refine G.moveS rfl trivial rfl rfl rfl ?_
          refine G.moveI rfl trivial rfl rfl rfl ?_
          refine G.moveI rfl trivial rfl rfl rfl ?_
          refine G.call E56 rfl rfl trivial rfl rfl (break_spec W0 ha te kk n cap rest hn e he a1 b1 (by omega) hb1) rfl ?_
          rintro e L2 ⟨e1, hp1, rfl, rfl⟩
          refine G.nil ?_
          refine C.region ?_
          refine G.moveI rfl trivial rfl rfl rfl ?_
          refine G.subN (j := 1) rfl trivial rfl rfl rfl rfl (by omega) ?_
          refine G.assignI rfl trivial rfl rfl rfl ?_
          refine G.nil ?_
          exact ⟨lim1 - 1, e1, by omega, hp1, rfl, rfl, rfl, rfl, rfl, rfl, rfl, rfl, rfl⟩
        · intro hc2
          refine C.skip ?_
          exact ⟨lim1, e, hlim1, permIn_refl _ _ _, rfl, rfl, rfl, rfl, rfl, rfl, rfl, rfl, rfl⟩
      ·
        rintro F D' L' ⟨lim2, e1, hlim2, hp1, h0, h1, h2, h3, h8, h9, h10, rfl, rfl⟩
        refine C.fix (d := 0) h0 ?_
        refine C.fix (d := 1) h1 ?_
        refine C.fix (d := 2) h2 ?_
        refine C.fix (d := 3) h3 ?_
        refine C.fix (d := 8) h8 ?_
        refine C.fix (d := 9) h9 ?_
        refine C.fix (d := 10) h10 ?_
        have he1 : e1.size = n := by rw [hp1.1]; exact he
        have hcp := choosePivot_holds ltInt e1 a1 b1 (by omega)
        refine C.seq ?_
        refine C.region ?_
        refine G.moveS rfl trivial rfl rfl rfl ?_
        refine G.moveI rfl trivial rfl rfl rfl ?_
        refine G.moveI rfl trivial rfl rfl rfl ?_
        refine G.call E57 rfl rfl trivial rfl rfl (choosePivot_spec W0 ha te kk n cap rest (by omega) e1 he1 a1 b1 (by omega) hb1) rfl ?_
        rintro e L2 ⟨rfl, rfl⟩
        obtain ⟨p, hh, hpv⟩ : ∃ p h, choosePivot ltInt e1 a1 b1 = (p, h) := ⟨_, _, rfl⟩
        rw [hpv] at hcp ⊢
        refine G.moveU rfl trivial rfl rfl rfl ?_
        refine G.extractL rfl trivial rfl rfl rfl rfl ?_
        refine G.extractL rfl trivial rfl rfl rfl rfl ?_
        refine G.assignI rfl trivial rfl rfl rfl ?_
        refine G.assignI rfl trivial rfl rfl rfl ?_
        refine G.nil ?_
        refine C.cut (fun F D' L' => ∃ (p1 : Nat) (hi : Int) (e2 : Array Int), a1 ≤ p1 ∧ p1 < b1 ∧ PermIn a1 b1 e e2 ∧ F 0 = .slice (some ⟨bk, 0, none⟩) n cap ∧ F 1 = .int .i64 (a1 : Int) ∧ F 2 = .int .i64 (b1 : Int) ∧ F 3 = .int .i64 (lim2 : Int) ∧ F 8 = .bool wb ∧ F 9 = .bool wp ∧ F 10 = .int .i64 ((b1 - a1 : Nat) : Int) ∧ F 11 = .int .i64 (p1 : Int) ∧ F 12 = .int .i64 hi ∧ D' = [] ∧ u bk (.row (ic e2 rest) te kk) = L') ?_ ?_
        ·
          refine C.seq ?_
          refine C.region ?_
          refine G.moveI rfl trivial rfl rfl rfl ?_
          refine G.bin rfl trivial rfl rfl rfl rfl rfl ?_
          refine G.nil ?_
          refine C.cond _ rfl ?_ ?_
          · intro hc3
            refine C.seq ?_
            refine C.region ?_
            refine G.moveS rfl trivial rfl rfl rfl ?_
            refine G.moveI rfl trivial rfl rfl rfl ?_
            refine G.moveI rfl trivial rfl rfl rfl ?_
            refine G.call E58 rfl rfl trivial rfl rfl (reverse_spec W0 ha te kk n cap rest (by omega) e1 he1 a1 b1 (by omega) hb1) rfl ?_
            rintro e L2 ⟨rfl, rfl⟩
            refine G.nil ?_
            refine C.seq ?_
            refine C.region ?_
            refine G.moveI rfl trivial rfl rfl rfl ?_
            refine G.subN (j := 1) rfl trivial rfl rfl rfl rfl (by omega) ?_
            refine G.moveI rfl trivial rfl rfl rfl ?_
            refine G.moveI rfl trivial rfl rfl rfl ?_
            refine G.subN rfl trivial rfl rfl rfl rfl (by omega) ?_
            refine G.subN rfl trivial rfl rfl rfl rfl (by omega) ?_
            refine G.assignI rfl trivial rfl rfl rfl ?_
            refine G.nil ?_
            refine C.region ?_
            refine G.assignI rfl trivial rfl rfl rfl ?_
            refine G.nil ?_
            exact ⟨b1 - 1 - (p - a1), _, reverseRange e1 a1 b1, by have := hcp.1; have := hcp.2; simp only at *; omega, by have := hcp.1; have := hcp.2; simp only at *; omega, permIn_trans _ _ _ _ _ hp1 (reverseRange_holds e1 a1 b1 hab1 (by omega)), rfl, rfl, rfl, rfl, rfl, rfl, rfl, rfl, rfl, rfl, rfl⟩
          · intro hc3
            refine C.skip ?_
            exact ⟨p, _, e1, hcp.1, hcp.2, hp1, rfl, rfl, rfl, rfl, rfl, rfl, rfl, rfl, rfl, rfl, rfl⟩
        ·
          rintro F D' L' ⟨p1, hi, e2, hp3, hp4, hp2, h0, h1, h2, h3, h8, h9, h10, h11, h12, rfl, rfl⟩
          refine C.fix (d := 0) h0 ?_
          refine C.fix (d := 1) h1 ?_
          refine C.fix (d := 2) h2 ?_
          refine C.fix (d := 3) h3 ?_
          refine C.fix (d := 8) h8 ?_
          refine C.fix (d := 9) h9 ?_
          refine C.fix (d := 10) h10 ?_
          refine C.fix (d := 11) h11 ?_
          refine C.fix (d := 12) h12 ?_
          have he2 : e2.size = n := by rw [hp2.1]; exact he
          have hB2 : Below ltInt a1 b1 e2 := hB1.perm (by omega) hp2
          have hins := partialInsertionSort_holds swo_ltInt e2 a1 b1 (by omega) (by omega) hB2
          refine C.cut (fun F D' L' => ∃ (e3 : Array Int), PermIn a1 b1 e e3 ∧ F 0 = .slice (some ⟨bk, 0, none⟩) n cap ∧ F 1 = .int .i64 (a1 : Int) ∧ F 2 = .int .i64 (b1 : Int) ∧ F 3 = .int .i64 (lim2 : Int) ∧ F 8 = .bool wb ∧ F 9 = .bool wp ∧ F 10 = .int .i64 ((b1 - a1 : Nat) : Int) ∧ F 11 = .int .i64 (p1 : Int) ∧ D' = [] ∧ u bk (.row (ic e3 rest) te kk) = L') ?_ ?_
          ·
            refine C.seq ?_
            refine C.region ?_
            refine G.moveB rfl trivial rfl rfl rfl ?_
            refine G.moveB rfl trivial rfl rfl rfl ?_
            refine G.forkB (t := 62) _ rfl ?_ ?_
            · intro hg62
              refine G.moveB rfl ⟨_, rfl, rfl, rfl⟩ rfl rfl rfl ?_
              first | refine G.pickT rfl trivial rfl rfl rfl rfl ?_ | refine G.pickF rfl trivial rfl rfl rfl rfl ?_
              refine G.moveB rfl trivial rfl rfl rfl ?_
              refine G.forkB (t := 65) _ rfl ?_ ?_
              · intro hg65
                refine G.moveI rfl ⟨_, rfl, rfl, rfl⟩ rfl rfl rfl ?_
                refine G.bin rfl ⟨_, rfl, rfl, rfl⟩ rfl rfl rfl rfl rfl ?_
                first | refine G.pickT rfl trivial rfl rfl rfl rfl ?_ | refine G.pickF rfl trivial rfl rfl rfl rfl ?_
                refine G.nil ?_
                refine C.cond _ rfl ?_ ?_
                · intro hc4
                  refine C.seq ?_
                  refine C.region ?_
                  refine G.moveS rfl trivial rfl rfl rfl ?_
                  refine G.moveI rfl trivial rfl rfl rfl ?_
                  refine G.moveI rfl trivial rfl rfl rfl ?_
                  refine G.call E59 rfl rfl trivial rfl rfl (partialIns_spec' W0 ha te kk n cap rest hn e2 he2 a1 b1 (by omega) hb1) rfl ?_
                  rintro e L2 ⟨rfl, rfl⟩
                  refine G.nil ?_
                  refine C.condB _ rfl ?_ ?_
                  · intro hc5
                    refine C.ret ?_
                    -- end c0Fc1Fg62Tg65Tc4Tc5T
                    obtain ⟨q1, q2⟩ := hall _ (permIn_trans _ _ _ _ _ hp2 hins.1) (hins.2 hc5)
                    exact ⟨rfl, _, Res.of (rs := []) rfl rfl, _, q1, q2, rfl, rfl⟩
                  · intro hc5
                    refine C.skip ?_
                    exact ⟨_, permIn_trans _ _ _ _ _ hp2 hins.1, rfl, rfl, rfl, rfl, rfl, rfl, rfl, rfl, rfl, rfl⟩
                · intro hc4
                  refine C.skip ?_
                  exact ⟨e2, hp2, rfl, rfl, rfl, rfl, rfl, rfl, rfl, rfl, rfl, rfl⟩
              · intro hg65
                refine G.skip rfl rfl rfl rfl rfl rfl ?_
                refine G.skip rfl rfl rfl rfl rfl rfl ?_
                first | refine G.pickT rfl trivial rfl rfl rfl rfl ?_ | refine G.pickF rfl trivial rfl rfl rfl rfl ?_
                refine G.nil ?_
                refine C.condF rfl ?_
                refine C.skip ?_
                exact ⟨e2, hp2, rfl, rfl, rfl, rfl, rfl, rfl, rfl, rfl, rfl, rfl⟩
            · intro hg62
              refine G.skip rfl rfl rfl rfl rfl rfl ?_
              first | refine G.pickT rfl trivial rfl rfl rfl rfl ?_ | refine G.pickF rfl trivial rfl rfl rfl rfl ?_
              refine G.moveB rfl trivial rfl rfl rfl ?_
              refine G.skip rfl rfl rfl rfl rfl rfl ?_
              refine G.skip rfl rfl rfl rfl rfl rfl ?_
              first | refine G.pickT rfl trivial rfl rfl rfl rfl ?_ | refine G.pickF rfl trivial rfl rfl rfl rfl ?_
              refine G.nil ?_
              refine C.condF rfl ?_
              refine C.skip ?_
              exact ⟨e2, hp2, rfl, rfl, rfl, rfl, rfl, rfl, rfl, rfl, rfl, rfl⟩
          ·
            rintro F D' L' ⟨e3, hp5, h0, h1, h2, h3, h8, h9, h10, h11, rfl, rfl⟩
            refine C.fix (d := 0) h0 ?_
            refine C.fix (d := 1) h1 ?_
            refine C.fix (d := 2) h2 ?_
            refine C.fix (d := 3) h3 ?_
            refine C.fix (d := 8) h8 ?_
            refine C.fix (d := 9) h9 ?_
            refine C.fix (d := 10) h10 ?_
            refine C.fix (d := 11) h11 ?_
            have he3 : e3.size = n := by rw [hp5.1]; exact he
            have hB3 : Below ltInt a1 b1 e3 := hB1.perm (by omega) hp5
            refine C.seq ?_
            refine C.seq ?_
            refine C.drawn mixed (_) [] (fun _ h => h) ?_
            refine GA.pure (i := 0) (fun _ _ _ _ _ h => h) rfl (by kernel_rfl) trivial rfl rfl (Y.moveI rfl rfl) (#[true, false, false, false, false, false, false, false, false, false, false, false, false, false, false]) (by kernel_rfl) ?_
            refine GA.pure (i := 1) (fun _ _ _ _ _ h => h) rfl (by kernel_rfl) trivial rfl rfl (Y.bin rfl rfl rfl rfl) (#[true, true, false, false, false, false, false, false, false, false, false, false, false, false, false]) (by kernel_rfl) ?_
            refine GA.pure (i := 2) (fun _ _ _ _ _ h => h) rfl (by kernel_rfl) trivial rfl rfl (Y.moveB rfl rfl) (#[true, true, true, false, false, false, false, false, false, false, false, false, false, false, false]) (by kernel_rfl) ?_
            refine GA.fork (t := 75) _ rfl ?_ ?_
            · intro hg75
              refine GA.pure (i := 3) (fun _ _ _ _ _ h => h) rfl (by kernel_rfl) ⟨_, rfl, rfl, rfl⟩ rfl rfl (Y.moveS rfl rfl) (#[true, true, true, true, false, false, false, false, false, false, false, false, false, false, false]) (by kernel_rfl) ?_
              refine GA.pure (i := 4) (fun _ _ _ _ _ h => h) rfl (by kernel_rfl) ⟨_, rfl, rfl, rfl⟩ rfl rfl (Y.moveI rfl rfl) (#[true, true, true, true, true, false, false, false, false, false, false, false, false, false, false]) (by kernel_rfl) ?_
              refine GA.pure (i := 5) (fun _ _ _ _ _ h => h) rfl (by kernel_rfl) ⟨_, rfl, rfl, rfl⟩ rfl rfl (Y.subN (j := 1) rfl rfl rfl (by omega)) (#[true, true, true, true, true, true, false, false, false, false, false, false, false, false, false]) (by kernel_rfl) ?_
              refine GA.pure (i := 6) (fun _ _ _ _ _ h => h) rfl (by kernel_rfl) ⟨_, rfl, rfl, rfl⟩ rfl rfl (Y.idxN rfl Try.underlying27 I2 rfl rfl (by omega)) (#[true, true, true, true, true, true, true, false, false, false, false, false, false, false, false]) (by kernel_rfl) ?_
              refine GA.read (i := 7) (fun _ _ _ _ _ h => h) rfl (by kernel_rfl) (by kernel_rfl) ⟨_, rfl, rfl, rfl⟩ rfl rfl (Y.ldI (by first | exact ha.again _ | exact .next (ha.again _) | exact .next (.next (ha.again _))) rfl Try.underlying2 rfl rfl (by omega)) (#[true, true, true, true, true, true, true, true, false, false, false, false, false, false, false]) (by kernel_rfl) ?_
              refine GA.pure (i := 8) (fun _ _ _ _ _ h => h) rfl (by kernel_rfl) ⟨_, rfl, rfl, rfl⟩ rfl rfl (Y.moveS rfl rfl) (#[true, true, true, true, true, true, true, true, true, false, false, false, false, false, false]) (by kernel_rfl) ?_
              refine GA.pure (i := 9) (fun _ _ _ _ _ h => h) rfl (by kernel_rfl) ⟨_, rfl, rfl, rfl⟩ rfl rfl (Y.moveI rfl rfl) (#[true, true, true, true, true, true, true, true, true, true, false, false, false, false, false]) (by kernel_rfl) ?_
              refine GA.pure (i := 10) (fun _ _ _ _ _ h => h) rfl (by kernel_rfl) ⟨_, rfl, rfl, rfl⟩ rfl rfl (Y.idxN rfl Try.underlying27 I2 rfl rfl (by omega)) (#[true, true, true, true, true, true, true, true, true, true, true, false, false, false, false]) (by kernel_rfl) ?_
              refine GA.read (i := 11) (fun _ _ _ _ _ h => h) rfl (by kernel_rfl) (by kernel_rfl) ⟨_, rfl, rfl, rfl⟩ rfl rfl (Y.ldI (by first | exact ha.again _ | exact .next (ha.again _) | exact .next (.next (ha.again _))) rfl Try.underlying2 rfl rfl (by omega)) (#[true, true, true, true, true, true, true, true, true, true, true, true, false, false, false]) (by kernel_rfl) ?_
              refine GA.one (i := 12) rfl (by kernel_rfl) (#[true, true, true, true, true, true, true, true, true, true, true, true, true, false, false]) (by kernel_rfl) ?_
              refine G.call E60 rfl rfl ⟨_, rfl, rfl, rfl⟩ rfl rfl (less_spec W0 _ _ _) rfl ?_
              rintro e L2 ⟨rfl, rfl⟩
              refine G.nil ?_
              refine ⟨fun _ _ h => h, ?_⟩
              first | refine GA.pure (i := 13) (fun _ _ _ _ _ h => h) rfl (by kernel_rfl) ⟨_, rfl, rfl, rfl⟩ rfl rfl (Y.notD rfl rfl) (#[true, true, true, true, true, true, true, true, true, true, true, true, true, true, false]) (by kernel_rfl) ?_ | refine GA.pure (i := 13) (fun _ _ _ _ _ h => h) rfl (by kernel_rfl) ⟨_, rfl, rfl, rfl⟩ rfl rfl (Y.not rfl rfl) (#[true, true, true, true, true, true, true, true, true, true, true, true, true, true, false]) (by kernel_rfl) ?_
              first | refine GA.pure (i := 14) (fun _ _ _ _ _ h => h) rfl (by kernel_rfl) trivial rfl rfl (Y.pickT rfl rfl rfl) (#[true, true, true, true, true, true, true, true, true, true, true, true, true, true, true]) (by kernel_rfl) ?_ | refine GA.pure (i := 14) (fun _ _ _ _ _ h => h) rfl (by kernel_rfl) trivial rfl rfl (Y.pickF rfl rfl rfl) (#[true, true, true, true, true, true, true, true, true, true, true, true, true, true, true]) (by kernel_rfl) ?_
              refine GA.done (by kernel_rfl) ?_
              refine C.cond _ rfl ?_ ?_
              · intro hc6
                refine C.seq ?_
                refine C.region ?_
                refine G.moveS rfl trivial rfl rfl rfl ?_
                refine G.moveI rfl trivial rfl rfl rfl ?_
                refine G.moveI rfl trivial rfl rfl rfl ?_
                refine G.moveI rfl trivial rfl rfl rfl ?_
                refine G.call E61 rfl rfl trivial rfl rfl (partEq_spec W0 ha te kk n cap rest hn e3 he3 a1 b1 p1 hp3 hp4 hb1) rfl ?_
                rintro e L2 ⟨rfl, rfl⟩
                obtain ⟨mid, e4, hx⟩ : ∃ mid e4, partitionEqual ltInt e3 a1 b1 p1 = (mid, e4) := ⟨_, _, rfl⟩
                rw [hx]
                obtain ⟨g1, g2, g3, g4, g5⟩ := round_eq swo_ltInt (partitionEqual_holds ltInt) (by omega) hp3 hp4 (by omega) hB3 (by simp [ltInt]; exact Int.not_lt.1 hc6) hx
                refine G.assignI rfl trivial rfl rfl rfl ?_
                refine G.nil ?_
                refine C.seq ?_
                refine C.region ?_
                refine G.moveI rfl trivial rfl rfl rfl ?_
                refine G.assignI rfl trivial rfl rfl rfl ?_
                refine G.nil ?_
                refine C.exit ?_
                exact ⟨b1 - mid + 0, by omega, mid, b1, lim2, wb, wp, e4, rfl, by omega, g2, hb1, hlim2, by rw [g3]; exact he3, g4, fun R r1 r2 => (fun q => hall R (permIn_trans _ _ _ _ _ hp5 q.1) q.2) (g5 R r1 r2), rfl, rfl, rfl, rfl, rfl, rfl, rfl, rfl⟩
              · intro hc6
                refine C.skip ?_
                refine C.seq ?_
                refine C.region ?_
                refine G.moveS rfl trivial rfl rfl rfl ?_
                refine G.moveI rfl trivial rfl rfl rfl ?_
                refine G.moveI rfl trivial rfl rfl rfl ?_
                refine G.moveI rfl trivial rfl rfl rfl ?_
                refine G.call E62 rfl rfl trivial rfl rfl (partition_spec W0 ha te kk n cap rest hn e3 he3 a1 b1 p1 hp3 hp4 hb1) rfl ?_
                rintro e L2 ⟨rfl, rfl⟩
                obtain ⟨mid, ap, e4, hx⟩ : ∃ mid ap e4, Go.Sort.partition ltInt e3 a1 b1 p1 = (mid, ap, e4) := ⟨_, _, _, rfl⟩
                rw [hx]
                obtain ⟨g1, g2, g3, g4, g5, g6, g7⟩ := round_part swo_ltInt (partition_holds ltInt) hp3 hp4 (by omega) hB3 hx
                have he4 : e4.size = n := by rw [g3]; exact he3
                refine G.moveU rfl trivial rfl rfl rfl ?_
                refine G.extractL rfl trivial rfl rfl rfl rfl ?_
                refine G.extractL rfl trivial rfl rfl rfl rfl ?_
                refine G.assignI rfl trivial rfl rfl rfl ?_
                refine G.assignB rfl trivial rfl rfl rfl ?_
                refine G.nil ?_
                refine C.seq ?_
                refine C.region ?_
                refine G.moveB rfl trivial rfl rfl rfl ?_
                refine G.assignB rfl trivial rfl rfl rfl ?_
                refine G.nil ?_
                refine C.seq ?_
                refine C.region ?_
                refine G.moveI rfl trivial rfl rfl rfl ?_
                refine G.moveI rfl trivial rfl rfl rfl ?_
                refine G.subN rfl trivial rfl rfl rfl rfl (by omega) ?_
                refine G.moveI rfl trivial rfl rfl rfl ?_
                refine G.moveI rfl trivial rfl rfl rfl ?_
                refine G.subN rfl trivial rfl rfl rfl rfl (by omega) ?_
                refine G.assignI rfl trivial rfl rfl rfl ?_
                refine G.assignI rfl trivial rfl rfl rfl ?_
                refine G.nil ?_
                refine C.seq ?_
                refine C.region ?_
                refine G.moveI rfl trivial rfl rfl rfl ?_
                refine G.quoN (j := 8) rfl trivial rfl rfl rfl rfl (by omega) ?_
                refine G.assignI rfl trivial rfl rfl rfl ?_
                refine G.nil ?_
                refine C.seq ?_
                refine C.region ?_
                refine G.moveI rfl trivial rfl rfl rfl ?_
                refine G.moveI rfl trivial rfl rfl rfl ?_
                refine G.bin rfl trivial rfl rfl rfl rfl rfl ?_
                refine G.nil ?_
                refine C.cond _ rfl ?_ ?_
                · intro hc7
                  refine C.seq ?_
                  refine C.region ?_
                  refine G.moveI rfl trivial rfl rfl rfl ?_
                  refine G.moveI rfl trivial rfl rfl rfl ?_
                  refine G.bin rfl trivial rfl rfl rfl rfl rfl ?_
                  refine G.assignB rfl trivial rfl rfl rfl ?_
                  refine G.nil ?_
                  refine C.seq ?_
                  refine C.region ?_
                  refine G.moveS rfl trivial rfl rfl rfl ?_
                  refine G.moveI rfl trivial rfl rfl rfl ?_
                  refine G.moveI rfl trivial rfl rfl rfl ?_
                  refine G.moveI rfl trivial rfl rfl rfl ?_
                  refine G.call E38 rfl rfl trivial rfl rfl (ih e4 he4 a1 mid lim2 (by omega) g1 (by omega) hlim2 g4) rfl ?_
                  rintro e L2 ⟨e5, hp6, hs6, rfl, rfl⟩
                  obtain ⟨hB5, hfin⟩ := g6 e5 hp6 hs6
                  refine G.nil ?_
                  refine C.region ?_
                  refine G.moveI rfl trivial rfl rfl rfl ?_
                  refine G.addN (j := 1) rfl trivial rfl rfl rfl rfl (by omega) ?_
                  refine G.assignI rfl trivial rfl rfl rfl ?_
                  refine G.nil ?_
                  exact ⟨b1 - (mid + 1) + 0, by omega, mid + 1, b1, lim2, _, ap, e5, rfl, by omega, by omega, hb1, hlim2, by rw [hp6.1]; exact he4, hB5, fun R r1 r2 => (fun q => hall R (permIn_trans _ _ _ _ _ hp5 q.1) q.2) (hfin R r1 r2), rfl, rfl, rfl, rfl, rfl, rfl, rfl, rfl⟩
                · intro hc7
                  refine C.seq ?_
                  refine C.region ?_
                  refine G.moveI rfl trivial rfl rfl rfl ?_
                  refine G.moveI rfl trivial rfl rfl rfl ?_
                  refine G.bin rfl trivial rfl rfl rfl rfl rfl ?_
                  refine G.assignB rfl trivial rfl rfl rfl ?_
                  refine G.nil ?_
                  refine C.seq ?_
                  refine C.region ?_
                  refine G.moveS rfl trivial rfl rfl rfl ?_
                  refine G.moveI rfl trivial rfl rfl rfl ?_
                  refine G.addN (j := 1) rfl trivial rfl rfl rfl rfl (by omega) ?_
                  refine G.moveI rfl trivial rfl rfl rfl ?_
                  refine G.moveI rfl trivial rfl rfl rfl ?_
                  refine G.call E38 rfl rfl trivial rfl rfl (ih e4 he4 (mid + 1) b1 lim2 (by omega) (by omega) hb1 hlim2 g5) rfl ?_
                  rintro e L2 ⟨e5, hp6, hs6, rfl, rfl⟩
                  obtain ⟨hB5, hfin⟩ := g7 e5 hp6 hs6
                  refine G.nil ?_
                  refine C.region ?_
                  refine G.moveI rfl trivial rfl rfl rfl ?_
                  refine G.assignI rfl trivial rfl rfl rfl ?_
                  refine G.nil ?_
                  exact ⟨mid - a1 + 0, by omega, a1, mid, lim2, _, ap, e5, rfl, by omega, g1, by omega, hlim2, by rw [hp6.1]; exact he4, hB5, fun R r1 r2 => (fun q => hall R (permIn_trans _ _ _ _ _ hp5 q.1) q.2) (hfin R r1 r2), rfl, rfl, rfl, rfl, rfl, rfl, rfl, rfl⟩
            · intro hg75
              refine GA.skip (i := 3) (fun _ _ _ _ _ h => h) rfl (by kernel_rfl) rfl rfl rfl rfl rfl rfl (#[true, true, true, true, false, false, false, false, false, false, false, false, false, false, false]) (by kernel_rfl) ?_
              refine GA.skip (i := 4) (fun _ _ _ _ _ h => h) rfl (by kernel_rfl) rfl rfl rfl rfl rfl rfl (#[true, true, true, true, true, false, false, false, false, false, false, false, false, false, false]) (by kernel_rfl) ?_
              refine GA.skip (i := 5) (fun _ _ _ _ _ h => h) rfl (by kernel_rfl) rfl rfl rfl rfl rfl rfl (#[true, true, true, true, true, true, false, false, false, false, false, false, false, false, false]) (by kernel_rfl) ?_
              refine GA.skip (i := 6) (fun _ _ _ _ _ h => h) rfl (by kernel_rfl) rfl rfl rfl rfl rfl rfl (#[true, true, true, true, true, true, true, false, false, false, false, false, false, false, false]) (by kernel_rfl) ?_
              refine GA.skip (i := 7) (fun _ _ _ _ _ h => h) rfl (by kernel_rfl) rfl rfl rfl rfl rfl rfl (#[true, true, true, true, true, true, true, true, false, false, false, false, false, false, false]) (by kernel_rfl) ?_
              refine GA.skip (i := 8) (fun _ _ _ _ _ h => h) rfl (by kernel_rfl) rfl rfl rfl rfl rfl rfl (#[true, true, true, true, true, true, true, true, true, false, false, false, false, false, false]) (by kernel_rfl) ?_
              refine GA.skip (i := 9) (fun _ _ _ _ _ h => h) rfl (by kernel_rfl) rfl rfl rfl rfl rfl rfl (#[true, true, true, true, true, true, true, true, true, true, false, false, false, false, false]) (by kernel_rfl) ?_
              refine GA.skip (i := 10) (fun _ _ _ _ _ h => h) rfl (by kernel_rfl) rfl rfl rfl rfl rfl rfl (#[true, true, true, true, true, true, true, true, true, true, true, false, false, false, false]) (by kernel_rfl) ?_
              refine GA.skip (i := 11) (fun _ _ _ _ _ h => h) rfl (by kernel_rfl) rfl rfl rfl rfl rfl rfl (#[true, true, true, true, true, true, true, true, true, true, true, true, false, false, false]) (by kernel_rfl) ?_
              refine GA.skip (i := 12) (fun _ _ _ _ _ h => h) rfl (by kernel_rfl) rfl rfl rfl rfl rfl rfl (#[true, true, true, true, true, true, true, true, true, true, true, true, true, false, false]) (by kernel_rfl) ?_
              refine GA.skip (i := 13) (fun _ _ _ _ _ h => h) rfl (by kernel_rfl) rfl rfl rfl rfl rfl rfl (#[true, true, true, true, true, true, true, true, true, true, true, true, true, true, false]) (by kernel_rfl) ?_
              first | refine GA.pure (i := 14) (fun _ _ _ _ _ h => h) rfl (by kernel_rfl) trivial rfl rfl (Y.pickT rfl rfl rfl) (#[true, true, true, true, true, true, true, true, true, true, true, true, true, true, true]) (by kernel_rfl) ?_ | refine GA.pure (i := 14) (fun _ _ _ _ _ h => h) rfl (by kernel_rfl) trivial rfl rfl (Y.pickF rfl rfl rfl) (#[true, true, true, true, true, true, true, true, true, true, true, true, true, true, true]) (by kernel_rfl) ?_
              refine GA.done (by kernel_rfl) ?_
              refine C.condF rfl ?_
              refine C.skip ?_
              refine C.seq ?_
              refine C.region ?_
              refine G.moveS rfl trivial rfl rfl rfl ?_
              refine G.moveI rfl trivial rfl rfl rfl ?_
              refine G.moveI rfl trivial rfl rfl rfl ?_
              refine G.moveI rfl trivial rfl rfl rfl ?_
              refine G.call E62 rfl rfl trivial rfl rfl (partition_spec W0 ha te kk n cap rest hn e3 he3 a1 b1 p1 hp3 hp4 hb1) rfl ?_
              rintro e L2 ⟨rfl, rfl⟩
              obtain ⟨mid, ap, e4, hx⟩ : ∃ mid ap e4, Go.Sort.partition ltInt e3 a1 b1 p1 = (mid, ap, e4) := ⟨_, _, _, rfl⟩
              rw [hx]
              obtain ⟨g1, g2, g3, g4, g5, g6, g7⟩ := round_part swo_ltInt (partition_holds ltInt) hp3 hp4 (by omega) hB3 hx
              have he4 : e4.size = n := by rw [g3]; exact he3
              refine G.moveU rfl trivial rfl rfl rfl ?_
              refine G.extractL rfl trivial rfl rfl rfl rfl ?_
              refine G.extractL rfl trivial rfl rfl rfl rfl ?_
              refine G.assignI rfl trivial rfl rfl rfl ?_
              refine G.assignB rfl trivial rfl rfl rfl ?_
              refine G.nil ?_
              refine C.seq ?_
              refine C.region ?_
              refine G.moveB rfl trivial rfl rfl rfl ?_
              refine G.assignB rfl trivial rfl rfl rfl ?_
              refine G.nil ?_
              refine C.seq ?_
              refine C.region ?_
              refine G.moveI rfl trivial rfl rfl rfl ?_
              refine G.moveI rfl trivial rfl rfl rfl ?_
              refine G.subN rfl trivial rfl rfl rfl rfl (by omega) ?_
              refine G.moveI rfl trivial rfl rfl rfl ?_
              refine G.moveI rfl trivial rfl rfl rfl ?_
              refine G.subN rfl trivial rfl rfl rfl rfl (by omega) ?_
              refine G.assignI rfl trivial rfl rfl rfl ?_
              refine G.assignI rfl trivial rfl rfl rfl ?_
              refine G.nil ?_
              refine C.seq ?_
              refine C.region ?_
              refine G.moveI rfl trivial rfl rfl rfl ?_
              refine G.quoN (j := 8) rfl trivial rfl rfl rfl rfl (by omega) ?_
              refine G.assignI rfl trivial rfl rfl rfl ?_
              refine G.nil ?_
              refine C.seq ?_
              refine C.region ?_
              refine G.moveI rfl trivial rfl rfl rfl ?_
              refine G.moveI rfl trivial rfl rfl rfl ?_
              refine G.bin rfl trivial rfl rfl rfl rfl rfl ?_
              refine G.nil ?_
              refine C.cond _ rfl ?_ ?_
              · intro hc7
                refine C.seq ?_
                refine C.region ?_
                refine G.moveI rfl trivial rfl rfl rfl ?_
                refine G.moveI rfl trivial rfl rfl rfl ?_
                refine G.bin rfl trivial rfl rfl rfl rfl rfl ?_
                refine G.assignB rfl trivial rfl rfl rfl ?_
                refine G.nil ?_
                refine C.seq ?_
                refine C.region ?_
                refine G.moveS rfl trivial rfl rfl rfl ?_
                refine G.moveI rfl trivial rfl rfl rfl ?_
                refine G.moveI rfl trivial rfl rfl rfl ?_
                refine G.moveI rfl trivial rfl rfl rfl ?_
                refine G.call E38 rfl rfl trivial rfl rfl (ih e4 he4 a1 mid lim2 (by omega) g1 (by omega) hlim2 g4) rfl ?_
                rintro e L2 ⟨e5, hp6, hs6, rfl, rfl⟩
                obtain ⟨hB5, hfin⟩ := g6 e5 hp6 hs6
                refine G.nil ?_
                refine C.region ?_
                refine G.moveI rfl trivial rfl rfl rfl ?_
                refine G.addN (j := 1) rfl trivial rfl rfl rfl rfl (by omega) ?_
                refine G.assignI rfl trivial rfl rfl rfl ?_
                refine G.nil ?_
                exact ⟨b1 - (mid + 1) + 0, by omega, mid + 1, b1, lim2, _, ap, e5, rfl, by omega, by omega, hb1, hlim2, by rw [hp6.1]; exact he4, hB5, fun R r1 r2 => (fun q => hall R (permIn_trans _ _ _ _ _ hp5 q.1) q.2) (hfin R r1 r2), rfl, rfl, rfl, rfl, rfl, rfl, rfl, rfl⟩
              · intro hc7
                refine C.seq ?_
                refine C.region ?_
                refine G.moveI rfl trivial rfl rfl rfl ?_
                refine G.moveI rfl trivial rfl rfl rfl ?_
                refine G.bin rfl trivial rfl rfl rfl rfl rfl ?_
                refine G.assignB rfl trivial rfl rfl rfl ?_
                refine G.nil ?_
                refine C.seq ?_
                refine C.region ?_
                refine G.moveS rfl trivial rfl rfl rfl ?_
                refine G.moveI rfl trivial rfl rfl rfl ?_
                refine G.addN (j := 1) rfl trivial rfl rfl rfl rfl (by omega) ?_
                refine G.moveI rfl trivial rfl rfl rfl ?_
                refine G.moveI rfl trivial rfl rfl rfl ?_
                refine G.call E38 rfl rfl trivial rfl rfl (ih e4 he4 (mid + 1) b1 lim2 (by omega) (by omega) hb1 hlim2 g5) rfl ?_
                rintro e L2 ⟨e5, hp6, hs6, rfl, rfl⟩
                obtain ⟨hB5, hfin⟩ := g7 e5 hp6 hs6
                refine G.nil ?_
                refine C.region ?_
                refine G.moveI rfl trivial rfl rfl rfl ?_
                refine G.assignI rfl trivial rfl rfl rfl ?_
                refine G.nil ?_
                exact ⟨mid - a1 + 0, by omega, a1, mid, lim2, _, ap, e5, rfl, by omega, g1, by omega, hlim2, by rw [hp6.1]; exact he4, hB5, fun R r1 r2 => (fun q => hall R (permIn_trans _ _ _ _ _ hp5 q.1) q.2) (hfin R r1 r2), rfl, rfl, rfl, rfl, rfl, rfl, rfl, rfl⟩
theorem sort_spec (d : Array Int) (hd : d.size = n) :
    FnS Try.prog W0 23 #[.slice (some ⟨bk, 0, none⟩) n cap] (u bk (.row (ic d rest) te kk))
      (fun e L' => L' = u bk (.row (ic (sortL d.toList).toArray rest) te kk) ∧ e = .returned (.tuple #[])) := by
  refine FnS.of (args := [.slice (some ⟨bk, 0, none⟩) n cap]) Try.func23 rfl rfl ?_
  refine C.seq ?_
  refine C.region ?_
  refine G.moveS rfl trivial rfl rfl rfl ?_
  refine G.lenSlice rfl trivial rfl rfl Try.underlying27 rfl ?_
  refine G.assignI rfl trivial rfl rfl rfl ?_
  refine G.nil ?_
  refine C.region ?_
  refine G.moveS rfl trivial rfl rfl rfl ?_
  refine G.moveI rfl trivial rfl rfl rfl ?_
  refine G.moveI rfl trivial rfl rfl rfl ?_
  refine G.convInt rfl trivial rfl rfl Try.underlying3 Try.underlying73 rfl ?_
  refine G.fix (d := 8) (v := .int .u64 (n : Int)) (by show Value.int .u64 (IntKind.u64.wrap (n : Int)) = _; rw [wrap_u64 (by omega)]) ?_
  refine G.call E39 rfl rfl trivial rfl rfl (len_spec W0 _ n (by omega)) rfl ?_
  rintro e L2 ⟨k, hk, rfl, rfl⟩
  refine G.call E38 rfl rfl trivial rfl rfl (pdq_spec W0 ha te kk n cap rest hn (n + 1) d hd 0 n k (by omega) (Nat.zero_le _) (Nat.le_refl _) (Nat.le_trans hk.1 (by decide)) (.inl rfl)) rfl ?_
  rintro e L2 ⟨d1, h1, h2, rfl, rfl⟩
  have e1 : d1 = (sortL d.toList).toArray := by
    rw [← sorted_is (by rw [hd]; exact h1) (by rw [hd]; exact h2)]
  refine G.nil ?_
  -- end 
  exact ⟨rfl, _, Res.of (rs := []) rfl rfl, by rw [e1], rfl⟩
end sort
end Go.Proofs.Ytomiidlbfcfpiaa
