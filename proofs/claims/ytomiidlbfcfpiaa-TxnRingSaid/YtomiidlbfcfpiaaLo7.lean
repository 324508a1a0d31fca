/-
  Locks: the document's answer, walked on: against, Has, Free, Lock; two lists compared.
-/
import Derived.Test.YtomiidlbfcfpiaaLo6
namespace Go.Proofs.Ytomiidlbfcfpiaa
open Go Go.SL Go.RowKit Go.Sort

/-- the document's locks -/
def RfIs (bw : Nat) (ls : List One) (s1 s2 : Seg) : Prop := ∃ v, OwnS v ls.length (ls.flatMap oneC) 81 3 s1 ∧ s2 = [(bw, .row [v] 30 1)]
theorem against_modes {x y : One} (hx : 1 ≤ x.2.1 ∧ x.2.1 ≤ 3) (hy : 1 ≤ y.2.1 ∧ y.2.1 ≤ 3) : againstB x y = if x.1 = y.1 then false else if x.2.1 = 1 then decide (y.2.1 = 2) && decide (y.2.2 = x.2.2) else if x.2.1 = 2 then decide (y.2.1 = 3) || decide (y.2.2 = x.2.2) else decide (y.2.1 = 2) := by
  obtain ⟨x1, x2, x3⟩ := x
  obtain ⟨y1, y2, y3⟩ := y
  simp only at hx hy
  have hx' : x2 = 1 ∨ x2 = 2 ∨ x2 = 3 := by omega
  have hy' : y2 = 1 ∨ y2 = 2 ∨ y2 = 3 := by omega
  have hc : decide (y3 = x3) = decide (x3 = y3) := decide_eq_decide.2 ⟨Eq.symm, Eq.symm⟩
  unfold againstB
  simp only [hc]
  by_cases h1 : x1 = y1
  · simp [h1]
  · rcases hx' with rfl | rfl | rfl <;> rcases hy' with rfl | rfl | rfl <;> simp [h1]
section ref
variable (W0 : World)
theorem ragainst_spec (L : List Seg) (x y : One) (hx : 1 ≤ x.2.1 ∧ x.2.1 ≤ 3) (hy : 1 ≤ y.2.1 ∧ y.2.1 ≤ 3) : FnS Try.prog W0 45 #[oneV x, oneV y] L (fun e L' => L' = L ∧ e = .returned (.bool (againstB x y))) := by
  rw [against_modes hx hy]
  obtain ⟨x1, x2, x3⟩ := x
  obtain ⟨y1, y2, y3⟩ := y
  refine FnS.of (args := [oneV (x1, x2, x3), oneV (y1, y2, y3)]) Try.func45 rfl rfl ?_
  refine C.seq ?_
  refine C.region ?_
  refine G.boxG rfl trivial rfl rfl rfl ?_
  intro b2
  refine G.boxG rfl trivial rfl rfl rfl ?_
  intro b3
  refine G.assignB rfl trivial rfl rfl rfl ?_
  refine G.nil ?_
  refine C.seq ?_
  refine C.seq ?_
  refine C.region ?_
  refine G.fieldAddr rfl trivial rfl rfl Try.underlying81 rfl I2 rfl rfl ?_
  refine G.loadAt (by first | exact .here | exact .next .here | exact .next (.next .here) | exact .next (.next (.next .here)) | exact .next (.next (.next (.next .here))) | exact .next (.next (.next (.next (.next .here)))) | exact .next (.next (.next (.next (.next (.next .here))))) | exact .next (.next (.next (.next (.next (.next (.next .here)))))) | exact .in1 | exact .next .in1 | exact .next (.next .in1) | exact .next (.next (.next .in1)) | exact .next (.next (.next (.next .in1))) | exact .in2 | exact .next .in2 | exact .next (.next .in2) | exact .next (.next (.next .in2)) | exact .next (.next (.next (.next .in2))) | exact .app .here | exact .app (.next .here) | exact .app (.next (.next .here)) | exact .app (.next (.next (.next .here))) | exact .app (.next (.next (.next (.next .here)))) | exact .app (.next (.next (.next (.next (.next .here))))) | exact .app (.next (.next (.next (.next (.next (.next .here)))))) | exact .app (.next (.next (.next (.next (.next (.next (.next .here))))))) | exact .app .in1 | exact .app .in2 | exact .app (.next .in1) | exact .next (.app .in1) | exact .next (.next (.app .in1)) | exact .next (.app .here) | exact .next (.next (.app .here)) | exact .next (.next (.next (.app .here))) | exact .next (.next (.next (.next (.app .here))))) rfl trivial rfl rfl Try.underlying2 rfl rfl (by rfl) ?_
  refine G.fieldAddr rfl trivial rfl rfl Try.underlying81 rfl I2 rfl rfl ?_
  refine G.loadAt (by first | exact .here | exact .next .here | exact .next (.next .here) | exact .next (.next (.next .here)) | exact .next (.next (.next (.next .here))) | exact .next (.next (.next (.next (.next .here)))) | exact .next (.next (.next (.next (.next (.next .here))))) | exact .next (.next (.next (.next (.next (.next (.next .here)))))) | exact .in1 | exact .next .in1 | exact .next (.next .in1) | exact .next (.next (.next .in1)) | exact .next (.next (.next (.next .in1))) | exact .in2 | exact .next .in2 | exact .next (.next .in2) | exact .next (.next (.next .in2)) | exact .next (.next (.next (.next .in2))) | exact .app .here | exact .app (.next .here) | exact .app (.next (.next .here)) | exact .app (.next (.next (.next .here))) | exact .app (.next (.next (.next (.next .here)))) | exact .app (.next (.next (.next (.next (.next .here))))) | exact .app (.next (.next (.next (.next (.next (.next .here)))))) | exact .app (.next (.next (.next (.next (.next (.next (.next .here))))))) | exact .app .in1 | exact .app .in2 | exact .app (.next .in1) | exact .next (.app .in1) | exact .next (.next (.app .in1)) | exact .next (.app .here) | exact .next (.next (.app .here)) | exact .next (.next (.next (.app .here))) | exact .next (.next (.next (.next (.app .here))))) rfl trivial rfl rfl Try.underlying2 rfl rfl (by rfl) ?_
  refine G.bin rfl trivial rfl rfl rfl rfl rfl ?_
  refine G.nil ?_
  refine C.cond _ rfl ?_ ?_
  · intro hc0
    refine C.seq ?_
    refine C.region ?_
    refine G.assignB rfl trivial rfl rfl rfl ?_
    refine G.nil ?_
    refine C.less (fun _ h => h.tail.tail) ?_
    refine C.ret ?_
    -- end c0T
    exact ⟨rfl, _, Res.of (rs := [.tmp 4]) rfl rfl, rfl, by rw [if_pos hc0]; rfl⟩
  · intro hc0
    refine C.skip ?_
    refine C.seq ?_
    refine C.seq ?_
    refine C.region ?_
    refine G.fieldAddr rfl trivial rfl rfl Try.underlying81 rfl I3 rfl rfl ?_
    refine G.loadAt (by first | exact .here | exact .next .here | exact .next (.next .here) | exact .next (.next (.next .here)) | exact .next (.next (.next (.next .here))) | exact .next (.next (.next (.next (.next .here)))) | exact .next (.next (.next (.next (.next (.next .here))))) | exact .next (.next (.next (.next (.next (.next (.next .here)))))) | exact .in1 | exact .next .in1 | exact .next (.next .in1) | exact .next (.next (.next .in1)) | exact .next (.next (.next (.next .in1))) | exact .in2 | exact .next .in2 | exact .next (.next .in2) | exact .next (.next (.next .in2)) | exact .next (.next (.next (.next .in2))) | exact .app .here | exact .app (.next .here) | exact .app (.next (.next .here)) | exact .app (.next (.next (.next .here))) | exact .app (.next (.next (.next (.next .here)))) | exact .app (.next (.next (.next (.next (.next .here))))) | exact .app (.next (.next (.next (.next (.next (.next .here)))))) | exact .app (.next (.next (.next (.next (.next (.next (.next .here))))))) | exact .app .in1 | exact .app .in2 | exact .app (.next .in1) | exact .next (.app .in1) | exact .next (.next (.app .in1)) | exact .next (.app .here) | exact .next (.next (.app .here)) | exact .next (.next (.next (.app .here))) | exact .next (.next (.next (.next (.app .here))))) rfl trivial rfl rfl Try.underlying3 rfl rfl (by rfl) ?_
    refine G.nil ?_
    refine C.block ?_
    refine C.seq ?_
    refine C.region ?_
    refine G.bin rfl trivial rfl rfl rfl rfl rfl ?_
    refine G.assignB rfl trivial rfl rfl rfl ?_
    refine G.nil ?_
    refine C.cond _ rfl ?_ ?_
    · intro hc1
      refine C.seq ?_
      refine C.region ?_
      refine G.fieldAddr rfl trivial rfl rfl Try.underlying81 rfl I3 rfl rfl ?_
      refine G.loadAt (by first | exact .here | exact .next .here | exact .next (.next .here) | exact .next (.next (.next .here)) | exact .next (.next (.next (.next .here))) | exact .next (.next (.next (.next (.next .here)))) | exact .next (.next (.next (.next (.next (.next .here))))) | exact .next (.next (.next (.next (.next (.next (.next .here)))))) | exact .in1 | exact .next .in1 | exact .next (.next .in1) | exact .next (.next (.next .in1)) | exact .next (.next (.next (.next .in1))) | exact .in2 | exact .next .in2 | exact .next (.next .in2) | exact .next (.next (.next .in2)) | exact .next (.next (.next (.next .in2))) | exact .app .here | exact .app (.next .here) | exact .app (.next (.next .here)) | exact .app (.next (.next (.next .here))) | exact .app (.next (.next (.next (.next .here)))) | exact .app (.next (.next (.next (.next (.next .here))))) | exact .app (.next (.next (.next (.next (.next (.next .here)))))) | exact .app (.next (.next (.next (.next (.next (.next (.next .here))))))) | exact .app .in1 | exact .app .in2 | exact .app (.next .in1) | exact .next (.app .in1) | exact .next (.next (.app .in1)) | exact .next (.app .here) | exact .next (.next (.app .here)) | exact .next (.next (.next (.app .here))) | exact .next (.next (.next (.next (.app .here))))) rfl trivial rfl rfl Try.underlying3 rfl rfl (by rfl) ?_
      refine G.bin rfl trivial rfl rfl rfl rfl rfl ?_
      refine G.moveB rfl trivial rfl rfl rfl ?_
      refine G.fork (t := 17) _ rfl ?_ ?_
      · intro hg17
        refine G.fieldAddr rfl ⟨_, rfl, rfl, rfl⟩ rfl rfl Try.underlying81 rfl I9 rfl rfl ?_
        refine G.loadAt (by first | exact .here | exact .next .here | exact .next (.next .here) | exact .next (.next (.next .here)) | exact .next (.next (.next (.next .here))) | exact .next (.next (.next (.next (.next .here)))) | exact .next (.next (.next (.next (.next (.next .here))))) | exact .next (.next (.next (.next (.next (.next (.next .here)))))) | exact .in1 | exact .next .in1 | exact .next (.next .in1) | exact .next (.next (.next .in1)) | exact .next (.next (.next (.next .in1))) | exact .in2 | exact .next .in2 | exact .next (.next .in2) | exact .next (.next (.next .in2)) | exact .next (.next (.next (.next .in2))) | exact .app .here | exact .app (.next .here) | exact .app (.next (.next .here)) | exact .app (.next (.next (.next .here))) | exact .app (.next (.next (.next (.next .here)))) | exact .app (.next (.next (.next (.next (.next .here))))) | exact .app (.next (.next (.next (.next (.next (.next .here)))))) | exact .app (.next (.next (.next (.next (.next (.next (.next .here))))))) | exact .app .in1 | exact .app .in2 | exact .app (.next .in1) | exact .next (.app .in1) | exact .next (.next (.app .in1)) | exact .next (.app .here) | exact .next (.next (.app .here)) | exact .next (.next (.next (.app .here))) | exact .next (.next (.next (.next (.app .here))))) rfl ⟨_, rfl, rfl, rfl⟩ rfl rfl Try.underlying9 rfl rfl (by rfl) ?_
        refine G.fieldAddr rfl ⟨_, rfl, rfl, rfl⟩ rfl rfl Try.underlying81 rfl I9 rfl rfl ?_
        refine G.loadAt (by first | exact .here | exact .next .here | exact .next (.next .here) | exact .next (.next (.next .here)) | exact .next (.next (.next (.next .here))) | exact .next (.next (.next (.next (.next .here)))) | exact .next (.next (.next (.next (.next (.next .here))))) | exact .next (.next (.next (.next (.next (.next (.next .here)))))) | exact .in1 | exact .next .in1 | exact .next (.next .in1) | exact .next (.next (.next .in1)) | exact .next (.next (.next (.next .in1))) | exact .in2 | exact .next .in2 | exact .next (.next .in2) | exact .next (.next (.next .in2)) | exact .next (.next (.next (.next .in2))) | exact .app .here | exact .app (.next .here) | exact .app (.next (.next .here)) | exact .app (.next (.next (.next .here))) | exact .app (.next (.next (.next (.next .here)))) | exact .app (.next (.next (.next (.next (.next .here))))) | exact .app (.next (.next (.next (.next (.next (.next .here)))))) | exact .app (.next (.next (.next (.next (.next (.next (.next .here))))))) | exact .app .in1 | exact .app .in2 | exact .app (.next .in1) | exact .next (.app .in1) | exact .next (.next (.app .in1)) | exact .next (.app .here) | exact .next (.next (.app .here)) | exact .next (.next (.next (.app .here))) | exact .next (.next (.next (.next (.app .here))))) rfl ⟨_, rfl, rfl, rfl⟩ rfl rfl Try.underlying9 rfl rfl (by rfl) ?_
        refine G.strEq rfl ⟨_, rfl, rfl, rfl⟩ rfl rfl  rfl rfl ?_
        first | refine G.pickT rfl trivial rfl rfl rfl rfl ?_ | refine G.pickF rfl trivial rfl rfl rfl rfl ?_
        refine G.assignB rfl trivial rfl rfl rfl ?_
        refine G.nil ?_
        refine C.less (fun _ h => h.tail.tail) ?_
        refine C.ret ?_
        -- end c0Fc1Tg17T
        exact ⟨rfl, _, Res.of (rs := [.tmp 4]) rfl rfl, rfl, by rw [if_neg hc0, if_pos hc1, decide_eq_true hg17]; rfl⟩
      · intro hg17
        refine G.skip rfl rfl rfl rfl rfl rfl ?_
        refine G.skip rfl rfl rfl rfl rfl rfl ?_
        refine G.skip rfl rfl rfl rfl rfl rfl ?_
        refine G.skip rfl rfl rfl rfl rfl rfl ?_
        refine G.skip rfl rfl rfl rfl rfl rfl ?_
        first | refine G.pickT rfl trivial rfl rfl rfl rfl ?_ | refine G.pickF rfl trivial rfl rfl rfl rfl ?_
        refine G.assignB rfl trivial rfl rfl rfl ?_
        refine G.nil ?_
        refine C.less (fun _ h => h.tail.tail) ?_
        refine C.ret ?_
        -- end c0Fc1Tg17F
        exact ⟨rfl, _, Res.of (rs := [.tmp 4]) rfl rfl, rfl, by rw [if_neg hc0, if_pos hc1, decide_eq_false hg17]; rfl⟩
    · intro hc1
      refine C.seq ?_
      refine C.region ?_
      refine G.bin rfl trivial rfl rfl rfl rfl rfl ?_
      refine G.assignB rfl trivial rfl rfl rfl ?_
      refine G.nil ?_
      refine C.cond _ rfl ?_ ?_
      · intro hc2
        refine C.seq ?_
        refine C.region ?_
        refine G.fieldAddr rfl trivial rfl rfl Try.underlying81 rfl I3 rfl rfl ?_
        refine G.loadAt (by first | exact .here | exact .next .here | exact .next (.next .here) | exact .next (.next (.next .here)) | exact .next (.next (.next (.next .here))) | exact .next (.next (.next (.next (.next .here)))) | exact .next (.next (.next (.next (.next (.next .here))))) | exact .next (.next (.next (.next (.next (.next (.next .here)))))) | exact .in1 | exact .next .in1 | exact .next (.next .in1) | exact .next (.next (.next .in1)) | exact .next (.next (.next (.next .in1))) | exact .in2 | exact .next .in2 | exact .next (.next .in2) | exact .next (.next (.next .in2)) | exact .next (.next (.next (.next .in2))) | exact .app .here | exact .app (.next .here) | exact .app (.next (.next .here)) | exact .app (.next (.next (.next .here))) | exact .app (.next (.next (.next (.next .here)))) | exact .app (.next (.next (.next (.next (.next .here))))) | exact .app (.next (.next (.next (.next (.next (.next .here)))))) | exact .app (.next (.next (.next (.next (.next (.next (.next .here))))))) | exact .app .in1 | exact .app .in2 | exact .app (.next .in1) | exact .next (.app .in1) | exact .next (.next (.app .in1)) | exact .next (.app .here) | exact .next (.next (.app .here)) | exact .next (.next (.next (.app .here))) | exact .next (.next (.next (.next (.app .here))))) rfl trivial rfl rfl Try.underlying3 rfl rfl (by rfl) ?_
        refine G.bin rfl trivial rfl rfl rfl rfl rfl ?_
        refine G.moveB rfl trivial rfl rfl rfl ?_
        refine G.fork (t := 29) _ rfl ?_ ?_
        · intro hg29
          refine G.skip rfl rfl rfl rfl rfl rfl ?_
          refine G.skip rfl rfl rfl rfl rfl rfl ?_
          refine G.skip rfl rfl rfl rfl rfl rfl ?_
          refine G.skip rfl rfl rfl rfl rfl rfl ?_
          refine G.skip rfl rfl rfl rfl rfl rfl ?_
          first | refine G.pickT rfl trivial rfl rfl rfl rfl ?_ | refine G.pickF rfl trivial rfl rfl rfl rfl ?_
          refine G.assignB rfl trivial rfl rfl rfl ?_
          refine G.nil ?_
          refine C.less (fun _ h => h.tail.tail) ?_
          refine C.ret ?_
          -- end c0Fc1Fc2Tg29T
          exact ⟨rfl, _, Res.of (rs := [.tmp 4]) rfl rfl, rfl, by rw [if_neg hc0, if_neg hc1, if_pos hc2, decide_eq_true hg29]; rfl⟩
        · intro hg29
          refine G.fieldAddr rfl ⟨_, rfl, rfl, rfl⟩ rfl rfl Try.underlying81 rfl I9 rfl rfl ?_
          refine G.loadAt (by first | exact .here | exact .next .here | exact .next (.next .here) | exact .next (.next (.next .here)) | exact .next (.next (.next (.next .here))) | exact .next (.next (.next (.next (.next .here)))) | exact .next (.next (.next (.next (.next (.next .here))))) | exact .next (.next (.next (.next (.next (.next (.next .here)))))) | exact .in1 | exact .next .in1 | exact .next (.next .in1) | exact .next (.next (.next .in1)) | exact .next (.next (.next (.next .in1))) | exact .in2 | exact .next .in2 | exact .next (.next .in2) | exact .next (.next (.next .in2)) | exact .next (.next (.next (.next .in2))) | exact .app .here | exact .app (.next .here) | exact .app (.next (.next .here)) | exact .app (.next (.next (.next .here))) | exact .app (.next (.next (.next (.next .here)))) | exact .app (.next (.next (.next (.next (.next .here))))) | exact .app (.next (.next (.next (.next (.next (.next .here)))))) | exact .app (.next (.next (.next (.next (.next (.next (.next .here))))))) | exact .app .in1 | exact .app .in2 | exact .app (.next .in1) | exact .next (.app .in1) | exact .next (.next (.app .in1)) | exact .next (.app .here) | exact .next (.next (.app .here)) | exact .next (.next (.next (.app .here))) | exact .next (.next (.next (.next (.app .here))))) rfl ⟨_, rfl, rfl, rfl⟩ rfl rfl Try.underlying9 rfl rfl (by rfl) ?_
          refine G.fieldAddr rfl ⟨_, rfl, rfl, rfl⟩ rfl rfl Try.underlying81 rfl I9 rfl rfl ?_
          refine G.loadAt (by first | exact .here | exact .next .here | exact .next (.next .here) | exact .next (.next (.next .here)) | exact .next (.next (.next (.next .here))) | exact .next (.next (.next (.next (.next .here)))) | exact .next (.next (.next (.next (.next (.next .here))))) | exact .next (.next (.next (.next (.next (.next (.next .here)))))) | exact .in1 | exact .next .in1 | exact .next (.next .in1) | exact .next (.next (.next .in1)) | exact .next (.next (.next (.next .in1))) | exact .in2 | exact .next .in2 | exact .next (.next .in2) | exact .next (.next (.next .in2)) | exact .next (.next (.next (.next .in2))) | exact .app .here | exact .app (.next .here) | exact .app (.next (.next .here)) | exact .app (.next (.next (.next .here))) | exact .app (.next (.next (.next (.next .here)))) | exact .app (.next (.next (.next (.next (.next .here))))) | exact .app (.next (.next (.next (.next (.next (.next .here)))))) | exact .app (.next (.next (.next (.next (.next (.next (.next .here))))))) | exact .app .in1 | exact .app .in2 | exact .app (.next .in1) | exact .next (.app .in1) | exact .next (.next (.app .in1)) | exact .next (.app .here) | exact .next (.next (.app .here)) | exact .next (.next (.next (.app .here))) | exact .next (.next (.next (.next (.app .here))))) rfl ⟨_, rfl, rfl, rfl⟩ rfl rfl Try.underlying9 rfl rfl (by rfl) ?_
          refine G.strEq rfl ⟨_, rfl, rfl, rfl⟩ rfl rfl  rfl rfl ?_
          first | refine G.pickT rfl trivial rfl rfl rfl rfl ?_ | refine G.pickF rfl trivial rfl rfl rfl rfl ?_
          refine G.assignB rfl trivial rfl rfl rfl ?_
          refine G.nil ?_
          refine C.less (fun _ h => h.tail.tail) ?_
          refine C.ret ?_
          -- end c0Fc1Fc2Tg29F
          exact ⟨rfl, _, Res.of (rs := [.tmp 4]) rfl rfl, rfl, by rw [if_neg hc0, if_neg hc1, if_pos hc2, decide_eq_false hg29]; rfl⟩
      · intro hc2
        refine C.skip ?_
        refine C.seq ?_
        refine C.region ?_
        refine G.fieldAddr rfl trivial rfl rfl Try.underlying81 rfl I3 rfl rfl ?_
        refine G.loadAt (by first | exact .here | exact .next .here | exact .next (.next .here) | exact .next (.next (.next .here)) | exact .next (.next (.next (.next .here))) | exact .next (.next (.next (.next (.next .here)))) | exact .next (.next (.next (.next (.next (.next .here))))) | exact .next (.next (.next (.next (.next (.next (.next .here)))))) | exact .in1 | exact .next .in1 | exact .next (.next .in1) | exact .next (.next (.next .in1)) | exact .next (.next (.next (.next .in1))) | exact .in2 | exact .next .in2 | exact .next (.next .in2) | exact .next (.next (.next .in2)) | exact .next (.next (.next (.next .in2))) | exact .app .here | exact .app (.next .here) | exact .app (.next (.next .here)) | exact .app (.next (.next (.next .here))) | exact .app (.next (.next (.next (.next .here)))) | exact .app (.next (.next (.next (.next (.next .here))))) | exact .app (.next (.next (.next (.next (.next (.next .here)))))) | exact .app (.next (.next (.next (.next (.next (.next (.next .here))))))) | exact .app .in1 | exact .app .in2 | exact .app (.next .in1) | exact .next (.app .in1) | exact .next (.next (.app .in1)) | exact .next (.app .here) | exact .next (.next (.app .here)) | exact .next (.next (.next (.app .here))) | exact .next (.next (.next (.next (.app .here))))) rfl trivial rfl rfl Try.underlying3 rfl rfl (by rfl) ?_
        refine G.bin rfl trivial rfl rfl rfl rfl rfl ?_
        refine G.assignB rfl trivial rfl rfl rfl ?_
        refine G.nil ?_
        refine C.less (fun _ h => h.tail.tail) ?_
        refine C.ret ?_
        -- end c0Fc1Fc2F
        exact ⟨rfl, _, Res.of (rs := [.tmp 4]) rfl rfl, rfl, by rw [if_neg hc0, if_neg hc1, if_neg hc2]; rfl⟩
theorem rhas_loop (L0 : List Seg) (bw : Nat) (ls : List One) (s1 s2 : Seg) (h : RfIs bw ls s1 s2) (hl : ls.length ≤ 1000) (t mo : Int) (k : ByteArray) : FnS Try.prog W0 46 #[.pointer (some ⟨bw, 0, none⟩), .int .i64 t, .int .i64 mo, .string k] (s1 :: s2 :: L0) (fun e L' => L' = s1 :: s2 :: L0 ∧ e = .returned (.bool (inL (lockOf t mo k) ls))) := by
  obtain ⟨v, hv, rfl⟩ := h
  obtain ⟨a, c, rfl, _⟩ := hv.form
  refine FnS.of (args := [.pointer (some ⟨bw, 0, none⟩), .int .i64 t, .int .i64 mo, .string k]) Try.func46 rfl rfl ?_
  refine C.seq ?_
  refine C.region ?_
  refine G.assignB rfl trivial rfl rfl rfl ?_
  refine G.nil ?_
  refine C.cut (fun F D' L' => ∃ k1 : ByteArray, lockOf t mo k = (t, mo, k1) ∧ F 0 = .pointer (some ⟨bw, 0, none⟩) ∧ F 1 = .int .i64 t ∧ F 2 = .int .i64 mo ∧ F 3 = .string k1 ∧ D' = [] ∧ s1 :: [(bw, .row [.slice a ls.length c] 30 1)] :: L0 = L') ?_ ?_
  ·
    refine C.seq ?_
    refine C.region ?_
    refine G.moveI rfl trivial rfl rfl rfl ?_
    refine G.bin rfl trivial rfl rfl rfl rfl rfl ?_
    refine G.nil ?_
    refine C.cond _ rfl ?_ ?_
    · intro hc0
      refine C.region ?_
      refine G.assignT rfl trivial rfl rfl rfl ?_
      refine G.nil ?_
      exact ⟨ByteArray.empty, by unfold lockOf; rw [if_pos hc0], rfl, rfl, rfl, rfl, rfl, rfl⟩
    · intro hc0
      refine C.skip ?_
      exact ⟨k, by unfold lockOf; rw [if_neg hc0], rfl, rfl, rfl, rfl, rfl, rfl⟩
  ·
    rintro F D' L' ⟨k1, hk1, h0, h1, h2, h3, rfl, rfl⟩
    refine C.fix (d := 0) h0 ?_
    refine C.fix (d := 1) h1 ?_
    refine C.fix (d := 2) h2 ?_
    refine C.fix (d := 3) h3 ?_
    refine C.seq ?_
    refine C.seq ?_
    refine C.region ?_
    refine G.assignI rfl trivial rfl rfl rfl ?_
    refine G.nil ?_
    refine C.block ?_
    refine C.loop (fun m F D' L' => ∃ (i : Nat), m = ls.length - i + 0 ∧ i ≤ ls.length ∧ lockOf t mo k ∉ ls.take i ∧ F 0 = .pointer (some ⟨bw, 0, none⟩) ∧ F 1 = .int .i64 t ∧ F 2 = .int .i64 mo ∧ F 3 = .string k1 ∧ F 9 = .int .i64 (i : Int) ∧ D' = [] ∧ s1 :: [(bw, .row [.slice a ls.length c] 30 1)] :: L0 = L') ⟨_, ⟨0, rfl, Nat.zero_le _, by simp, rfl, rfl, rfl, rfl, rfl, rfl, rfl⟩⟩ ?_
    rintro m F D' L' ⟨i, rfl, hi, hx, h0, h1, h2, h3, h9, rfl, rfl⟩
    refine C.fix (d := 0) h0 ?_
    refine C.fix (d := 1) h1 ?_
    refine C.fix (d := 2) h2 ?_
    refine C.fix (d := 3) h3 ?_
    refine C.fix (d := 9) h9 ?_
    refine C.seq ?_
    refine C.seq ?_
    refine C.region ?_
    refine G.moveI rfl trivial rfl rfl rfl ?_
    refine G.moveP rfl trivial rfl rfl rfl ?_
    first | refine G.nilCheckP rfl trivial rfl rfl rfl ?_ | refine G.nilCheckF rfl trivial rfl rfl rfl ?_
    refine G.fieldAddr rfl trivial rfl rfl Try.underlying30 rfl I28 rfl rfl ?_
    refine G.loadAt (by first | exact .here | exact .next .here | exact .next (.next .here) | exact .next (.next (.next .here)) | exact .next (.next (.next (.next .here))) | exact .next (.next (.next (.next (.next .here)))) | exact .next (.next (.next (.next (.next (.next .here))))) | exact .next (.next (.next (.next (.next (.next (.next .here)))))) | exact .in1 | exact .next .in1 | exact .next (.next .in1) | exact .next (.next (.next .in1)) | exact .next (.next (.next (.next .in1))) | exact .in2 | exact .next .in2 | exact .next (.next .in2) | exact .next (.next (.next .in2)) | exact .next (.next (.next (.next .in2))) | exact .app .here | exact .app (.next .here) | exact .app (.next (.next .here)) | exact .app (.next (.next (.next .here))) | exact .app (.next (.next (.next (.next .here)))) | exact .app (.next (.next (.next (.next (.next .here))))) | exact .app (.next (.next (.next (.next (.next (.next .here)))))) | exact .app (.next (.next (.next (.next (.next (.next (.next .here))))))) | exact .app .in1 | exact .app .in2 | exact .app (.next .in1) | exact .next (.app .in1) | exact .next (.next (.app .in1)) | exact .next (.app .here) | exact .next (.next (.app .here)) | exact .next (.next (.next (.app .here))) | exact .next (.next (.next (.next (.app .here))))) rfl trivial rfl rfl Try.underlying28 rfl rfl (by rfl) ?_
    refine G.lenSlice rfl trivial rfl rfl Try.underlying28 rfl ?_
    refine G.bin rfl trivial rfl rfl rfl rfl rfl ?_
    refine G.nil ?_
    refine C.cond _ rfl ?_ ?_
    · intro hc1
      have hlt : i < ls.length := by omega
      obtain ⟨bq, cq, kq, hveq, rfl, hq1, hq2⟩ := hv.block (by omega)
      cases hveq
      obtain ⟨o1, o2, o3⟩ := one_at hlt
      refine C.skip ?_
      refine C.seq ?_
      refine C.block ?_
      refine C.seq ?_
      refine C.region ?_
      refine G.moveP rfl trivial rfl rfl rfl ?_
      first | refine G.nilCheckP rfl trivial rfl rfl rfl ?_ | refine G.nilCheckF rfl trivial rfl rfl rfl ?_
      refine G.fieldAddr rfl trivial rfl rfl Try.underlying30 rfl I28 rfl rfl ?_
      refine G.loadAt (by first | exact .here | exact .next .here | exact .next (.next .here) | exact .next (.next (.next .here)) | exact .next (.next (.next (.next .here))) | exact .next (.next (.next (.next (.next .here)))) | exact .next (.next (.next (.next (.next (.next .here))))) | exact .next (.next (.next (.next (.next (.next (.next .here)))))) | exact .in1 | exact .next .in1 | exact .next (.next .in1) | exact .next (.next (.next .in1)) | exact .next (.next (.next (.next .in1))) | exact .in2 | exact .next .in2 | exact .next (.next .in2) | exact .next (.next (.next .in2)) | exact .next (.next (.next (.next .in2))) | exact .app .here | exact .app (.next .here) | exact .app (.next (.next .here)) | exact .app (.next (.next (.next .here))) | exact .app (.next (.next (.next (.next .here)))) | exact .app (.next (.next (.next (.next (.next .here))))) | exact .app (.next (.next (.next (.next (.next (.next .here)))))) | exact .app (.next (.next (.next (.next (.next (.next (.next .here))))))) | exact .app .in1 | exact .app .in2 | exact .app (.next .in1) | exact .next (.app .in1) | exact .next (.next (.app .in1)) | exact .next (.app .here) | exact .next (.next (.app .here)) | exact .next (.next (.next (.app .here))) | exact .next (.next (.next (.next (.app .here))))) rfl trivial rfl rfl Try.underlying28 rfl rfl (by rfl) ?_
      refine G.moveI rfl trivial rfl rfl rfl ?_
      refine G.indexAddr rfl trivial rfl rfl Try.underlying28 I81 rfl rfl (by omega) ?_
      refine G.fieldAddr rfl trivial rfl rfl Try.underlying81 rfl I2 rfl rfl ?_
      refine G.loadAt .here rfl trivial rfl rfl Try.underlying2 rfl rfl o1 ?_
      refine G.moveI rfl trivial rfl rfl rfl ?_
      refine G.bin rfl trivial rfl rfl rfl rfl rfl ?_
      refine G.moveB rfl trivial rfl rfl rfl ?_
      refine G.fork (t := 31) _ rfl ?_ ?_
      · intro hg31
        refine G.moveP rfl ⟨_, rfl, rfl, rfl⟩ rfl rfl rfl ?_
        first | refine G.nilCheckP rfl ⟨_, rfl, rfl, rfl⟩ rfl rfl rfl ?_ | refine G.nilCheckF rfl ⟨_, rfl, rfl, rfl⟩ rfl rfl rfl ?_
        refine G.fieldAddr rfl ⟨_, rfl, rfl, rfl⟩ rfl rfl Try.underlying30 rfl I28 rfl rfl ?_
        refine G.loadAt (by first | exact .here | exact .next .here | exact .next (.next .here) | exact .next (.next (.next .here)) | exact .next (.next (.next (.next .here))) | exact .next (.next (.next (.next (.next .here)))) | exact .next (.next (.next (.next (.next (.next .here))))) | exact .next (.next (.next (.next (.next (.next (.next .here)))))) | exact .in1 | exact .next .in1 | exact .next (.next .in1) | exact .next (.next (.next .in1)) | exact .next (.next (.next (.next .in1))) | exact .in2 | exact .next .in2 | exact .next (.next .in2) | exact .next (.next (.next .in2)) | exact .next (.next (.next (.next .in2))) | exact .app .here | exact .app (.next .here) | exact .app (.next (.next .here)) | exact .app (.next (.next (.next .here))) | exact .app (.next (.next (.next (.next .here)))) | exact .app (.next (.next (.next (.next (.next .here))))) | exact .app (.next (.next (.next (.next (.next (.next .here)))))) | exact .app (.next (.next (.next (.next (.next (.next (.next .here))))))) | exact .app .in1 | exact .app .in2 | exact .app (.next .in1) | exact .next (.app .in1) | exact .next (.next (.app .in1)) | exact .next (.app .here) | exact .next (.next (.app .here)) | exact .next (.next (.next (.app .here))) | exact .next (.next (.next (.next (.app .here))))) rfl ⟨_, rfl, rfl, rfl⟩ rfl rfl Try.underlying28 rfl rfl (by rfl) ?_
        refine G.moveI rfl ⟨_, rfl, rfl, rfl⟩ rfl rfl rfl ?_
        refine G.indexAddr rfl ⟨_, rfl, rfl, rfl⟩ rfl rfl Try.underlying28 I81 rfl rfl (by omega) ?_
        refine G.fieldAddr rfl ⟨_, rfl, rfl, rfl⟩ rfl rfl Try.underlying81 rfl I3 rfl rfl ?_
        refine G.loadAt .here rfl ⟨_, rfl, rfl, rfl⟩ rfl rfl Try.underlying3 rfl rfl o2 ?_
        refine G.moveI rfl ⟨_, rfl, rfl, rfl⟩ rfl rfl rfl ?_
        refine G.bin rfl ⟨_, rfl, rfl, rfl⟩ rfl rfl rfl rfl rfl ?_
        first | refine G.pickT rfl trivial rfl rfl rfl rfl ?_ | refine G.pickF rfl trivial rfl rfl rfl rfl ?_
        refine G.moveB rfl trivial rfl rfl rfl ?_
        refine G.fork (t := 43) _ rfl ?_ ?_
        · intro hg43
          refine G.moveP rfl ⟨_, rfl, rfl, rfl⟩ rfl rfl rfl ?_
          first | refine G.nilCheckP rfl ⟨_, rfl, rfl, rfl⟩ rfl rfl rfl ?_ | refine G.nilCheckF rfl ⟨_, rfl, rfl, rfl⟩ rfl rfl rfl ?_
          refine G.fieldAddr rfl ⟨_, rfl, rfl, rfl⟩ rfl rfl Try.underlying30 rfl I28 rfl rfl ?_
          refine G.loadAt (by first | exact .here | exact .next .here | exact .next (.next .here) | exact .next (.next (.next .here)) | exact .next (.next (.next (.next .here))) | exact .next (.next (.next (.next (.next .here)))) | exact .next (.next (.next (.next (.next (.next .here))))) | exact .next (.next (.next (.next (.next (.next (.next .here)))))) | exact .in1 | exact .next .in1 | exact .next (.next .in1) | exact .next (.next (.next .in1)) | exact .next (.next (.next (.next .in1))) | exact .in2 | exact .next .in2 | exact .next (.next .in2) | exact .next (.next (.next .in2)) | exact .next (.next (.next (.next .in2))) | exact .app .here | exact .app (.next .here) | exact .app (.next (.next .here)) | exact .app (.next (.next (.next .here))) | exact .app (.next (.next (.next (.next .here)))) | exact .app (.next (.next (.next (.next (.next .here))))) | exact .app (.next (.next (.next (.next (.next (.next .here)))))) | exact .app (.next (.next (.next (.next (.next (.next (.next .here))))))) | exact .app .in1 | exact .app .in2 | exact .app (.next .in1) | exact .next (.app .in1) | exact .next (.next (.app .in1)) | exact .next (.app .here) | exact .next (.next (.app .here)) | exact .next (.next (.next (.app .here))) | exact .next (.next (.next (.next (.app .here))))) rfl ⟨_, rfl, rfl, rfl⟩ rfl rfl Try.underlying28 rfl rfl (by rfl) ?_
          refine G.moveI rfl ⟨_, rfl, rfl, rfl⟩ rfl rfl rfl ?_
          refine G.indexAddr rfl ⟨_, rfl, rfl, rfl⟩ rfl rfl Try.underlying28 I81 rfl rfl (by omega) ?_
          refine G.fieldAddr rfl ⟨_, rfl, rfl, rfl⟩ rfl rfl Try.underlying81 rfl I9 rfl rfl ?_
          refine G.loadAt .here rfl ⟨_, rfl, rfl, rfl⟩ rfl rfl Try.underlying9 rfl rfl o3 ?_
          refine G.moveT rfl ⟨_, rfl, rfl, rfl⟩ rfl rfl rfl ?_
          refine G.strEq rfl ⟨_, rfl, rfl, rfl⟩ rfl rfl  rfl rfl ?_
          first | refine G.pickT rfl trivial rfl rfl rfl rfl ?_ | refine G.pickF rfl trivial rfl rfl rfl rfl ?_
          refine G.nil ?_
          refine C.cond _ rfl ?_ ?_
          · intro hc2
            refine C.seq ?_
            refine C.region ?_
            refine G.assignB rfl trivial rfl rfl rfl ?_
            refine G.nil ?_
            refine C.ret ?_
            -- end c1Tg31Tg43Tc2T
            have he : lockOf t mo k = ls[i] := by rw [hk1, ← hg31, ← hg43, ← hc2]
            exact ⟨rfl, _, Res.of (rs := [.tmp 8]) rfl rfl, rfl, by rw [(inL_iff _ _).2 (by rw [he]; exact List.getElem_mem hlt)]; rfl⟩
          · intro hc2
            refine C.skip ?_
            refine C.region ?_
            refine G.moveI rfl trivial rfl rfl rfl ?_
            refine G.addN (j := 1) rfl trivial rfl rfl rfl rfl (by omega) ?_
            refine G.assignI rfl trivial rfl rfl rfl ?_
            refine G.nil ?_
            exact ⟨ls.length - (i + 1) + 0, by omega, i + 1, rfl, by omega, by rw [List.take_succ_eq_append_getElem hlt, List.mem_append, List.mem_singleton]; rintro (h | h); exact hx h; rw [hk1] at h; have e1 := congrArg Prod.fst h; have e2 := congrArg (fun o : One => o.2.1) h; have e3 := congrArg (fun o : One => o.2.2) h; first | exact hc2 e3.symm | exact hg43 e2.symm | exact hg31 e1.symm, rfl, rfl, rfl, rfl, rfl, rfl, rfl⟩
        · intro hg43
          refine G.skip rfl rfl rfl rfl rfl rfl ?_
          refine G.skip rfl rfl rfl rfl rfl rfl ?_
          refine G.skip rfl rfl rfl rfl rfl rfl ?_
          refine G.skip rfl rfl rfl rfl rfl rfl ?_
          refine G.skip rfl rfl rfl rfl rfl rfl ?_
          refine G.skip rfl rfl rfl rfl rfl rfl ?_
          refine G.skip rfl rfl rfl rfl rfl rfl ?_
          refine G.skip rfl rfl rfl rfl rfl rfl ?_
          refine G.skip rfl rfl rfl rfl rfl rfl ?_
          refine G.skip rfl rfl rfl rfl rfl rfl ?_
          first | refine G.pickT rfl trivial rfl rfl rfl rfl ?_ | refine G.pickF rfl trivial rfl rfl rfl rfl ?_
          refine G.nil ?_
          refine C.condF rfl ?_
          refine C.skip ?_
          refine C.region ?_
          refine G.moveI rfl trivial rfl rfl rfl ?_
          refine G.addN (j := 1) rfl trivial rfl rfl rfl rfl (by omega) ?_
          refine G.assignI rfl trivial rfl rfl rfl ?_
          refine G.nil ?_
          exact ⟨ls.length - (i + 1) + 0, by omega, i + 1, rfl, by omega, by rw [List.take_succ_eq_append_getElem hlt, List.mem_append, List.mem_singleton]; rintro (h | h); exact hx h; rw [hk1] at h; have e1 := congrArg Prod.fst h; have e2 := congrArg (fun o : One => o.2.1) h; have e3 := congrArg (fun o : One => o.2.2) h; first | exact hc2 e3.symm | exact hg43 e2.symm | exact hg31 e1.symm, rfl, rfl, rfl, rfl, rfl, rfl, rfl⟩
      · intro hg31
        refine G.skip rfl rfl rfl rfl rfl rfl ?_
        refine G.skip rfl rfl rfl rfl rfl rfl ?_
        refine G.skip rfl rfl rfl rfl rfl rfl ?_
        refine G.skip rfl rfl rfl rfl rfl rfl ?_
        refine G.skip rfl rfl rfl rfl rfl rfl ?_
        refine G.skip rfl rfl rfl rfl rfl rfl ?_
        refine G.skip rfl rfl rfl rfl rfl rfl ?_
        refine G.skip rfl rfl rfl rfl rfl rfl ?_
        refine G.skip rfl rfl rfl rfl rfl rfl ?_
        refine G.skip rfl rfl rfl rfl rfl rfl ?_
        first | refine G.pickT rfl trivial rfl rfl rfl rfl ?_ | refine G.pickF rfl trivial rfl rfl rfl rfl ?_
        refine G.moveB rfl trivial rfl rfl rfl ?_
        refine G.skip rfl rfl rfl rfl rfl rfl ?_
        refine G.skip rfl rfl rfl rfl rfl rfl ?_
        refine G.skip rfl rfl rfl rfl rfl rfl ?_
        refine G.skip rfl rfl rfl rfl rfl rfl ?_
        refine G.skip rfl rfl rfl rfl rfl rfl ?_
        refine G.skip rfl rfl rfl rfl rfl rfl ?_
        refine G.skip rfl rfl rfl rfl rfl rfl ?_
        refine G.skip rfl rfl rfl rfl rfl rfl ?_
        refine G.skip rfl rfl rfl rfl rfl rfl ?_
        refine G.skip rfl rfl rfl rfl rfl rfl ?_
        first | refine G.pickT rfl trivial rfl rfl rfl rfl ?_ | refine G.pickF rfl trivial rfl rfl rfl rfl ?_
        refine G.nil ?_
        refine C.condF rfl ?_
        refine C.skip ?_
        refine C.region ?_
        refine G.moveI rfl trivial rfl rfl rfl ?_
        refine G.addN (j := 1) rfl trivial rfl rfl rfl rfl (by omega) ?_
        refine G.assignI rfl trivial rfl rfl rfl ?_
        refine G.nil ?_
        exact ⟨ls.length - (i + 1) + 0, by omega, i + 1, rfl, by omega, by rw [List.take_succ_eq_append_getElem hlt, List.mem_append, List.mem_singleton]; rintro (h | h); exact hx h; rw [hk1] at h; have e1 := congrArg Prod.fst h; have e2 := congrArg (fun o : One => o.2.1) h; have e3 := congrArg (fun o : One => o.2.2) h; first | exact hc2 e3.symm | exact hg43 e2.symm | exact hg31 e1.symm, rfl, rfl, rfl, rfl, rfl, rfl, rfl⟩
    · intro hc1
      refine C.exit ?_
      refine C.seq ?_
      refine C.region ?_
      refine G.assignB rfl trivial rfl rfl rfl ?_
      refine G.nil ?_
      refine C.ret ?_
      -- end c1F
      rw [List.take_of_length_le (by omega)] at hx
      exact ⟨rfl, _, Res.of (rs := [.tmp 8]) rfl rfl, rfl, by rw [Bool.eq_false_iff.2 (fun h => hx ((inL_iff _ _).1 h))]; rfl⟩
end ref
end Go.Proofs.Ytomiidlbfcfpiaa
