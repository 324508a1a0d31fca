/-
  The document's locks and waits as they stand inside its Txns: walked (turned out of Lo7, Lo8, Wa5, Wa6 by tools/mkref.py).
-/
import Derived.Test.YtomiidlbfcfpiaaLo10
import Derived.Test.YtomiidlbfcfpiaaWa7
namespace Go.Proofs.Ytomiidlbfcfpiaa
open Go Go.SL Go.RowKit Go.Sort

def RfK (bw : Nat) (x3 y3 : Value) (ls : List One) (s1 s2 : Seg) : Prop := ∃ v, OwnS v ls.length (ls.flatMap oneC) 81 3 s1 ∧ s2 = [(bw, .row [x3, v, y3] 35 3)]
def RwK (bw : Nat) (x3 y3 : Value) (es : List Edge) (s1 s2 : Seg) : Prop := ∃ v, OwnS v es.length (es.flatMap edC) 86 2 s1 ∧ s2 = [(bw, .row [x3, y3, v] 35 3)]
section ref
variable (W0 : World)
theorem rhasK (L0 : List Seg) (bw : Nat) (x3 y3 : Value) (ls : List One) (s1 s2 : Seg) (h : RfK bw x3 y3 ls s1 s2) (hl : ls.length ≤ 1000) (t mo : Int) (k : ByteArray) : FnS Try.prog W0 46 #[.pointer (some ⟨bw, 1, none⟩), .int .i64 t, .int .i64 mo, .string k] (s1 :: s2 :: L0) (fun e L' => L' = s1 :: s2 :: L0 ∧ e = .returned (.bool (inL (lockOf t mo k) ls))) := by
  obtain ⟨v, hv, rfl⟩ := h
  obtain ⟨a, c, rfl, _⟩ := hv.form
  refine FnS.of (args := [.pointer (some ⟨bw, 1, none⟩), .int .i64 t, .int .i64 mo, .string k]) Try.func46 rfl rfl ?_
  refine C.seq ?_
  refine C.region ?_
  refine G.assignB rfl trivial rfl rfl rfl ?_
  refine G.nil ?_
  refine C.cut (fun F D' L' => ∃ k1 : ByteArray, lockOf t mo k = (t, mo, k1) ∧ F 0 = .pointer (some ⟨bw, 1, none⟩) ∧ F 1 = .int .i64 t ∧ F 2 = .int .i64 mo ∧ F 3 = .string k1 ∧ D' = [] ∧ s1 :: [(bw, .row [x3, .slice a ls.length c, y3] 35 3)] :: L0 = L') ?_ ?_
  ·
    refine C.seq ?_
    refine C.region ?_
    refine G.moveI rfl trivial rfl rfl rfl ?_
    refine G.bin rfl trivial rfl rfl rfl rfl rfl ?_
    refine G.nil ?_
    refine C.cond _ rfl ?_ ?_
    · intro hc0
      refine C.region ?_
      refine G.assignT rfl trivial rfl rfl rfl ?_
      refine G.nil ?_
      exact ⟨ByteArray.empty, by unfold lockOf; rw [if_pos hc0], rfl, rfl, rfl, rfl, rfl, rfl⟩
    · intro hc0
      refine C.skip ?_
      exact ⟨k, by unfold lockOf; rw [if_neg hc0], rfl, rfl, rfl, rfl, rfl, rfl⟩
  ·
    rintro F D' L' ⟨k1, hk1, h0, h1, h2, h3, rfl, rfl⟩
    refine C.fix (d := 0) h0 ?_
    refine C.fix (d := 1) h1 ?_
    refine C.fix (d := 2) h2 ?_
    refine C.fix (d := 3) h3 ?_
    refine C.seq ?_
    refine C.seq ?_
    refine C.region ?_
    refine G.assignI rfl trivial rfl rfl rfl ?_
    refine G.nil ?_
    refine C.block ?_
    refine C.loop (fun m F D' L' => ∃ (i : Nat), m = ls.length - i + 0 ∧ i ≤ ls.length ∧ lockOf t mo k ∉ ls.take i ∧ F 0 = .pointer (some ⟨bw, 1, none⟩) ∧ F 1 = .int .i64 t ∧ F 2 = .int .i64 mo ∧ F 3 = .string k1 ∧ F 9 = .int .i64 (i : Int) ∧ D' = [] ∧ s1 :: [(bw, .row [x3, .slice a ls.length c, y3] 35 3)] :: L0 = L') ⟨_, ⟨0, rfl, Nat.zero_le _, by simp, rfl, rfl, rfl, rfl, rfl, rfl, rfl⟩⟩ ?_
    rintro m F D' L' ⟨i, rfl, hi, hx, h0, h1, h2, h3, h9, rfl, rfl⟩
    refine C.fix (d := 0) h0 ?_
    refine C.fix (d := 1) h1 ?_
    refine C.fix (d := 2) h2 ?_
    refine C.fix (d := 3) h3 ?_
    refine C.fix (d := 9) h9 ?_
    refine C.seq ?_
    refine C.seq ?_
    refine C.region ?_
    refine G.moveI rfl trivial rfl rfl rfl ?_
    refine G.moveP rfl trivial rfl rfl rfl ?_
    first | refine G.nilCheckP rfl trivial rfl rfl rfl ?_ | refine G.nilCheckF rfl trivial rfl rfl rfl ?_
    refine G.fieldAddr rfl trivial rfl rfl Try.underlying30 rfl I28 rfl rfl ?_
    refine G.loadAt (by first | exact .here | exact .next .here | exact .next (.next .here) | exact .next (.next (.next .here)) | exact .next (.next (.next (.next .here))) | exact .next (.next (.next (.next (.next .here)))) | exact .next (.next (.next (.next (.next (.next .here))))) | exact .next (.next (.next (.next (.next (.next (.next .here)))))) | exact .in1 | exact .next .in1 | exact .next (.next .in1) | exact .next (.next (.next .in1)) | exact .next (.next (.next (.next .in1))) | exact .in2 | exact .next .in2 | exact .next (.next .in2) | exact .next (.next (.next .in2)) | exact .next (.next (.next (.next .in2))) | exact .app .here | exact .app (.next .here) | exact .app (.next (.next .here)) | exact .app (.next (.next (.next .here))) | exact .app (.next (.next (.next (.next .here)))) | exact .app (.next (.next (.next (.next (.next .here))))) | exact .app (.next (.next (.next (.next (.next (.next .here)))))) | exact .app (.next (.next (.next (.next (.next (.next (.next .here))))))) | exact .app .in1 | exact .app .in2 | exact .app (.next .in1) | exact .next (.app .in1) | exact .next (.next (.app .in1)) | exact .next (.app .here) | exact .next (.next (.app .here)) | exact .next (.next (.next (.app .here))) | exact .next (.next (.next (.next (.app .here))))) rfl trivial rfl rfl Try.underlying28 rfl rfl (by rfl) ?_
    refine G.lenSlice rfl trivial rfl rfl Try.underlying28 rfl ?_
    refine G.bin rfl trivial rfl rfl rfl rfl rfl ?_
    refine G.nil ?_
    refine C.cond _ rfl ?_ ?_
    · intro hc1
      have hlt : i < ls.length := by omega
      obtain ⟨bq, cq, kq, hveq, rfl, hq1, hq2⟩ := hv.block (by omega)
      cases hveq
      obtain ⟨o1, o2, o3⟩ := one_at hlt
      refine C.skip ?_
      refine C.seq ?_
      refine C.block ?_
      refine C.seq ?_
      refine C.region ?_
      refine G.moveP rfl trivial rfl rfl rfl ?_
      first | refine G.nilCheckP rfl trivial rfl rfl rfl ?_ | refine G.nilCheckF rfl trivial rfl rfl rfl ?_
      refine G.fieldAddr rfl trivial rfl rfl Try.underlying30 rfl I28 rfl rfl ?_
      refine G.loadAt (by first | exact .here | exact .next .here | exact .next (.next .here) | exact .next (.next (.next .here)) | exact .next (.next (.next (.next .here))) | exact .next (.next (.next (.next (.next .here)))) | exact .next (.next (.next (.next (.next (.next .here))))) | exact .next (.next (.next (.next (.next (.next (.next .here)))))) | exact .in1 | exact .next .in1 | exact .next (.next .in1) | exact .next (.next (.next .in1)) | exact .next (.next (.next (.next .in1))) | exact .in2 | exact .next .in2 | exact .next (.next .in2) | exact .next (.next (.next .in2)) | exact .next (.next (.next (.next .in2))) | exact .app .here | exact .app (.next .here) | exact .app (.next (.next .here)) | exact .app (.next (.next (.next .here))) | exact .app (.next (.next (.next (.next .here)))) | exact .app (.next (.next (.next (.next (.next .here))))) | exact .app (.next (.next (.next (.next (.next (.next .here)))))) | exact .app (.next (.next (.next (.next (.next (.next (.next .here))))))) | exact .app .in1 | exact .app .in2 | exact .app (.next .in1) | exact .next (.app .in1) | exact .next (.next (.app .in1)) | exact .next (.app .here) | exact .next (.next (.app .here)) | exact .next (.next (.next (.app .here))) | exact .next (.next (.next (.next (.app .here))))) rfl trivial rfl rfl Try.underlying28 rfl rfl (by rfl) ?_
      refine G.moveI rfl trivial rfl rfl rfl ?_
      refine G.indexAddr rfl trivial rfl rfl Try.underlying28 I81 rfl rfl (by omega) ?_
      refine G.fieldAddr rfl trivial rfl rfl Try.underlying81 rfl I2 rfl rfl ?_
      refine G.loadAt .here rfl trivial rfl rfl Try.underlying2 rfl rfl o1 ?_
      refine G.moveI rfl trivial rfl rfl rfl ?_
      refine G.bin rfl trivial rfl rfl rfl rfl rfl ?_
      refine G.moveB rfl trivial rfl rfl rfl ?_
      refine G.fork (t := 31) _ rfl ?_ ?_
      · intro hg31
        refine G.moveP rfl ⟨_, rfl, rfl, rfl⟩ rfl rfl rfl ?_
        first | refine G.nilCheckP rfl ⟨_, rfl, rfl, rfl⟩ rfl rfl rfl ?_ | refine G.nilCheckF rfl ⟨_, rfl, rfl, rfl⟩ rfl rfl rfl ?_
        refine G.fieldAddr rfl ⟨_, rfl, rfl, rfl⟩ rfl rfl Try.underlying30 rfl I28 rfl rfl ?_
        refine G.loadAt (by first | exact .here | exact .next .here | exact .next (.next .here) | exact .next (.next (.next .here)) | exact .next (.next (.next (.next .here))) | exact .next (.next (.next (.next (.next .here)))) | exact .next (.next (.next (.next (.next (.next .here))))) | exact .next (.next (.next (.next (.next (.next (.next .here)))))) | exact .in1 | exact .next .in1 | exact .next (.next .in1) | exact .next (.next (.next .in1)) | exact .next (.next (.next (.next .in1))) | exact .in2 | exact .next .in2 | exact .next (.next .in2) | exact .next (.next (.next .in2)) | exact .next (.next (.next (.next .in2))) | exact .app .here | exact .app (.next .here) | exact .app (.next (.next .here)) | exact .app (.next (.next (.next .here))) | exact .app (.next (.next (.next (.next .here)))) | exact .app (.next (.next (.next (.next (.next .here))))) | exact .app (.next (.next (.next (.next (.next (.next .here)))))) | exact .app (.next (.next (.next (.next (.next (.next (.next .here))))))) | exact .app .in1 | exact .app .in2 | exact .app (.next .in1) | exact .next (.app .in1) | exact .next (.next (.app .in1)) | exact .next (.app .here) | exact .next (.next (.app .here)) | exact .next (.next (.next (.app .here))) | exact .next (.next (.next (.next (.app .here))))) rfl ⟨_, rfl, rfl, rfl⟩ rfl rfl Try.underlying28 rfl rfl (by rfl) ?_
        refine G.moveI rfl ⟨_, rfl, rfl, rfl⟩ rfl rfl rfl ?_
        refine G.indexAddr rfl ⟨_, rfl, rfl, rfl⟩ rfl rfl Try.underlying28 I81 rfl rfl (by omega) ?_
        refine G.fieldAddr rfl ⟨_, rfl, rfl, rfl⟩ rfl rfl Try.underlying81 rfl I3 rfl rfl ?_
        refine G.loadAt .here rfl ⟨_, rfl, rfl, rfl⟩ rfl rfl Try.underlying3 rfl rfl o2 ?_
        refine G.moveI rfl ⟨_, rfl, rfl, rfl⟩ rfl rfl rfl ?_
        refine G.bin rfl ⟨_, rfl, rfl, rfl⟩ rfl rfl rfl rfl rfl ?_
        first | refine G.pickT rfl trivial rfl rfl rfl rfl ?_ | refine G.pickF rfl trivial rfl rfl rfl rfl ?_
        refine G.moveB rfl trivial rfl rfl rfl ?_
        refine G.fork (t := 43) _ rfl ?_ ?_
        · intro hg43
          refine G.moveP rfl ⟨_, rfl, rfl, rfl⟩ rfl rfl rfl ?_
          first | refine G.nilCheckP rfl ⟨_, rfl, rfl, rfl⟩ rfl rfl rfl ?_ | refine G.nilCheckF rfl ⟨_, rfl, rfl, rfl⟩ rfl rfl rfl ?_
          refine G.fieldAddr rfl ⟨_, rfl, rfl, rfl⟩ rfl rfl Try.underlying30 rfl I28 rfl rfl ?_
          refine G.loadAt (by first | exact .here | exact .next .here | exact .next (.next .here) | exact .next (.next (.next .here)) | exact .next (.next (.next (.next .here))) | exact .next (.next (.next (.next (.next .here)))) | exact .next (.next (.next (.next (.next (.next .here))))) | exact .next (.next (.next (.next (.next (.next (.next .here)))))) | exact .in1 | exact .next .in1 | exact .next (.next .in1) | exact .next (.next (.next .in1)) | exact .next (.next (.next (.next .in1))) | exact .in2 | exact .next .in2 | exact .next (.next .in2) | exact .next (.next (.next .in2)) | exact .next (.next (.next (.next .in2))) | exact .app .here | exact .app (.next .here) | exact .app (.next (.next .here)) | exact .app (.next (.next (.next .here))) | exact .app (.next (.next (.next (.next .here)))) | exact .app (.next (.next (.next (.next (.next .here))))) | exact .app (.next (.next (.next (.next (.next (.next .here)))))) | exact .app (.next (.next (.next (.next (.next (.next (.next .here))))))) | exact .app .in1 | exact .app .in2 | exact .app (.next .in1) | exact .next (.app .in1) | exact .next (.next (.app .in1)) | exact .next (.app .here) | exact .next (.next (.app .here)) | exact .next (.next (.next (.app .here))) | exact .next (.next (.next (.next (.app .here))))) rfl ⟨_, rfl, rfl, rfl⟩ rfl rfl Try.underlying28 rfl rfl (by rfl) ?_
          refine G.moveI rfl ⟨_, rfl, rfl, rfl⟩ rfl rfl rfl ?_
          refine G.indexAddr rfl ⟨_, rfl, rfl, rfl⟩ rfl rfl Try.underlying28 I81 rfl rfl (by omega) ?_
          refine G.fieldAddr rfl ⟨_, rfl, rfl, rfl⟩ rfl rfl Try.underlying81 rfl I9 rfl rfl ?_
          refine G.loadAt .here rfl ⟨_, rfl, rfl, rfl⟩ rfl rfl Try.underlying9 rfl rfl o3 ?_
          refine G.moveT rfl ⟨_, rfl, rfl, rfl⟩ rfl rfl rfl ?_
          refine G.strEq rfl ⟨_, rfl, rfl, rfl⟩ rfl rfl  rfl rfl ?_
          first | refine G.pickT rfl trivial rfl rfl rfl rfl ?_ | refine G.pickF rfl trivial rfl rfl rfl rfl ?_
          refine G.nil ?_
          refine C.cond _ rfl ?_ ?_
          · intro hc2
            refine C.seq ?_
            refine C.region ?_
            refine G.assignB rfl trivial rfl rfl rfl ?_
            refine G.nil ?_
            refine C.ret ?_
            -- end c1Tg31Tg43Tc2T
            have he : lockOf t mo k = ls[i] := by rw [hk1, ← hg31, ← hg43, ← hc2]
            exact ⟨rfl, _, Res.of (rs := [.tmp 8]) rfl rfl, rfl, by rw [(inL_iff _ _).2 (by rw [he]; exact List.getElem_mem hlt)]; rfl⟩
          · intro hc2
            refine C.skip ?_
            refine C.region ?_
            refine G.moveI rfl trivial rfl rfl rfl ?_
            refine G.addN (j := 1) rfl trivial rfl rfl rfl rfl (by omega) ?_
            refine G.assignI rfl trivial rfl rfl rfl ?_
            refine G.nil ?_
            exact ⟨ls.length - (i + 1) + 0, by omega, i + 1, rfl, by omega, by rw [List.take_succ_eq_append_getElem hlt, List.mem_append, List.mem_singleton]; rintro (h | h); exact hx h; rw [hk1] at h; have e1 := congrArg Prod.fst h; have e2 := congrArg (fun o : One => o.2.1) h; have e3 := congrArg (fun o : One => o.2.2) h; first | exact hc2 e3.symm | exact hg43 e2.symm | exact hg31 e1.symm, rfl, rfl, rfl, rfl, rfl, rfl, rfl⟩
        · intro hg43
          refine G.skip rfl rfl rfl rfl rfl rfl ?_
          refine G.skip rfl rfl rfl rfl rfl rfl ?_
          refine G.skip rfl rfl rfl rfl rfl rfl ?_
          refine G.skip rfl rfl rfl rfl rfl rfl ?_
          refine G.skip rfl rfl rfl rfl rfl rfl ?_
          refine G.skip rfl rfl rfl rfl rfl rfl ?_
          refine G.skip rfl rfl rfl rfl rfl rfl ?_
          refine G.skip rfl rfl rfl rfl rfl rfl ?_
          refine G.skip rfl rfl rfl rfl rfl rfl ?_
          refine G.skip rfl rfl rfl rfl rfl rfl ?_
          first | refine G.pickT rfl trivial rfl rfl rfl rfl ?_ | refine G.pickF rfl trivial rfl rfl rfl rfl ?_
          refine G.nil ?_
          refine C.condF rfl ?_
          refine C.skip ?_
          refine C.region ?_
          refine G.moveI rfl trivial rfl rfl rfl ?_
          refine G.addN (j := 1) rfl trivial rfl rfl rfl rfl (by omega) ?_
          refine G.assignI rfl trivial rfl rfl rfl ?_
          refine G.nil ?_
          exact ⟨ls.length - (i + 1) + 0, by omega, i + 1, rfl, by omega, by rw [List.take_succ_eq_append_getElem hlt, List.mem_append, List.mem_singleton]; rintro (h | h); exact hx h; rw [hk1] at h; have e1 := congrArg Prod.fst h; have e2 := congrArg (fun o : One => o.2.1) h; have e3 := congrArg (fun o : One => o.2.2) h; first | exact hc2 e3.symm | exact hg43 e2.symm | exact hg31 e1.symm, rfl, rfl, rfl, rfl, rfl, rfl, rfl⟩
      · intro hg31
        refine G.skip rfl rfl rfl rfl rfl rfl ?_
        refine G.skip rfl rfl rfl rfl rfl rfl ?_
        refine G.skip rfl rfl rfl rfl rfl rfl ?_
        refine G.skip rfl rfl rfl rfl rfl rfl ?_
        refine G.skip rfl rfl rfl rfl rfl rfl ?_
        refine G.skip rfl rfl rfl rfl rfl rfl ?_
        refine G.skip rfl rfl rfl rfl rfl rfl ?_
        refine G.skip rfl rfl rfl rfl rfl rfl ?_
        refine G.skip rfl rfl rfl rfl rfl rfl ?_
        refine G.skip rfl rfl rfl rfl rfl rfl ?_
        first | refine G.pickT rfl trivial rfl rfl rfl rfl ?_ | refine G.pickF rfl trivial rfl rfl rfl rfl ?_
        refine G.moveB rfl trivial rfl rfl rfl ?_
        refine G.skip rfl rfl rfl rfl rfl rfl ?_
        refine G.skip rfl rfl rfl rfl rfl rfl ?_
        refine G.skip rfl rfl rfl rfl rfl rfl ?_
        refine G.skip rfl rfl rfl rfl rfl rfl ?_
        refine G.skip rfl rfl rfl rfl rfl rfl ?_
        refine G.skip rfl rfl rfl rfl rfl rfl ?_
        refine G.skip rfl rfl rfl rfl rfl rfl ?_
        refine G.skip rfl rfl rfl rfl rfl rfl ?_
        refine G.skip rfl rfl rfl rfl rfl rfl ?_
        refine G.skip rfl rfl rfl rfl rfl rfl ?_
        first | refine G.pickT rfl trivial rfl rfl rfl rfl ?_ | refine G.pickF rfl trivial rfl rfl rfl rfl ?_
        refine G.nil ?_
        refine C.condF rfl ?_
        refine C.skip ?_
        refine C.region ?_
        refine G.moveI rfl trivial rfl rfl rfl ?_
        refine G.addN (j := 1) rfl trivial rfl rfl rfl rfl (by omega) ?_
        refine G.assignI rfl trivial rfl rfl rfl ?_
        refine G.nil ?_
        exact ⟨ls.length - (i + 1) + 0, by omega, i + 1, rfl, by omega, by rw [List.take_succ_eq_append_getElem hlt, List.mem_append, List.mem_singleton]; rintro (h | h); exact hx h; rw [hk1] at h; have e1 := congrArg Prod.fst h; have e2 := congrArg (fun o : One => o.2.1) h; have e3 := congrArg (fun o : One => o.2.2) h; first | exact hc2 e3.symm | exact hg43 e2.symm | exact hg31 e1.symm, rfl, rfl, rfl, rfl, rfl, rfl, rfl⟩
    · intro hc1
      refine C.exit ?_
      refine C.seq ?_
      refine C.region ?_
      refine G.assignB rfl trivial rfl rfl rfl ?_
      refine G.nil ?_
      refine C.ret ?_
      -- end c1F
      rw [List.take_of_length_le (by omega)] at hx
      exact ⟨rfl, _, Res.of (rs := [.tmp 8]) rfl rfl, rfl, by rw [Bool.eq_false_iff.2 (fun h => hx ((inL_iff _ _).1 h))]; rfl⟩

variable (L0 : List Seg) (bw : Nat) (x3 y3 : Value)
theorem rfreeK (ls : List One) (s1 s2 : Seg) (h : RfK bw x3 y3 ls s1 s2) (hl : ls.length ≤ 1000) (t : Int) : FnS Try.prog W0 34 #[.pointer (some ⟨bw, 1, none⟩), .int .i64 t] (s1 :: s2 :: L0) (fun e L' => ∃ s1' s2', RfK bw x3 y3 (others t ls) s1' s2' ∧ L' = s1' :: s2' :: L0 ∧ e = .returned (.int .i64 ((ls.length - (others t ls).length : Nat) : Int))) := by
  obtain ⟨v, hv, rfl⟩ := h
  obtain ⟨a, c, rfl, _⟩ := hv.form
  have hle := others_le t ls
  refine FnS.of (args := [.pointer (some ⟨bw, 1, none⟩), .int .i64 t]) Try.func34 rfl rfl ?_
  refine C.seq ?_
  refine C.region ?_
  refine G.assignI rfl trivial rfl rfl rfl ?_
  refine G.nil ?_
  refine C.seq ?_
  refine C.region ?_
  refine G.assignS rfl trivial rfl rfl rfl ?_
  refine G.less (fun _ h => h.empty) ?_
  refine G.nil ?_
  refine C.seq ?_
  refine C.seq ?_
  refine C.region ?_
  refine G.assignI rfl trivial rfl rfl rfl ?_
  refine G.nil ?_
  refine C.block ?_
  refine C.loop (fun m F D' L' => ∃ (i : Nat) (ao : Option Addr) (co : Nat) (so : Seg), m = ls.length - i + 0 ∧ i ≤ ls.length ∧ OwnS (.slice ao (others t (ls.take i)).length co) (others t (ls.take i)).length ((others t (ls.take i)).flatMap oneC) 81 3 so ∧ F 0 = .pointer (some ⟨bw, 1, none⟩) ∧ F 1 = .int .i64 t ∧ F 5 = .slice ao (others t (ls.take i)).length co ∧ F 6 = .int .i64 (i : Int) ∧ D' = [] ∧ so :: s1 :: [(bw, .row [x3, .slice a ls.length c, y3] 35 3)] :: L0 = L') ⟨_, ⟨0, none, 0, [], rfl, Nat.zero_le _, OwnS.nil _ _, rfl, rfl, rfl, rfl, rfl, rfl⟩⟩ ?_
  rintro m F D' L' ⟨i, ao, co, so, rfl, hi, hot, h0, h1, h5, h6, rfl, rfl⟩
  refine C.fix (d := 0) h0 ?_
  refine C.fix (d := 1) h1 ?_
  refine C.fix (d := 5) h5 ?_
  refine C.fix (d := 6) h6 ?_
  refine C.seq ?_
  refine C.seq ?_
  refine C.region ?_
  refine G.moveI rfl trivial rfl rfl rfl ?_
  refine G.moveP rfl trivial rfl rfl rfl ?_
  first | refine G.nilCheckP rfl trivial rfl rfl rfl ?_ | refine G.nilCheckF rfl trivial rfl rfl rfl ?_
  refine G.fieldAddr rfl trivial rfl rfl Try.underlying30 rfl I28 rfl rfl ?_
  refine G.loadAt (by first | exact .here | exact .next .here | exact .next (.next .here) | exact .next (.next (.next .here)) | exact .next (.next (.next (.next .here))) | exact .next (.next (.next (.next (.next .here)))) | exact .next (.next (.next (.next (.next (.next .here))))) | exact .next (.next (.next (.next (.next (.next (.next .here)))))) | exact .in1 | exact .next .in1 | exact .next (.next .in1) | exact .next (.next (.next .in1)) | exact .next (.next (.next (.next .in1))) | exact .in2 | exact .next .in2 | exact .next (.next .in2) | exact .next (.next (.next .in2)) | exact .next (.next (.next (.next .in2))) | exact .app .here | exact .app (.next .here) | exact .app (.next (.next .here)) | exact .app (.next (.next (.next .here))) | exact .app (.next (.next (.next (.next .here)))) | exact .app (.next (.next (.next (.next (.next .here))))) | exact .app (.next (.next (.next (.next (.next (.next .here)))))) | exact .app (.next (.next (.next (.next (.next (.next (.next .here))))))) | exact .app .in1 | exact .app .in2 | exact .app (.next .in1) | exact .next (.app .in1) | exact .next (.next (.app .in1)) | exact .next (.app .here) | exact .next (.next (.app .here)) | exact .next (.next (.next (.app .here))) | exact .next (.next (.next (.next (.app .here))))) rfl trivial rfl rfl Try.underlying28 rfl rfl (by rfl) ?_
  refine G.lenSlice rfl trivial rfl rfl Try.underlying28 rfl ?_
  refine G.bin rfl trivial rfl rfl rfl rfl rfl ?_
  refine G.nil ?_
  refine C.cond _ rfl ?_ ?_
  · intro hc0
    have hlt : i < ls.length := by omega
    obtain ⟨bq, cq, kq, hveq, rfl, hq1, hq2⟩ := hv.block (by omega)
    cases hveq
    obtain ⟨o1, o2, o3⟩ := one_at hlt
    have hsn := others_not (t := t) hlt
    have hol := others_le t (ls.take i)
    rw [List.length_take] at hol
    refine C.skip ?_
    refine C.seq ?_
    refine C.block ?_
    refine C.seq ?_
    refine C.region ?_
    refine G.moveP rfl trivial rfl rfl rfl ?_
    first | refine G.nilCheckP rfl trivial rfl rfl rfl ?_ | refine G.nilCheckF rfl trivial rfl rfl rfl ?_
    refine G.fieldAddr rfl trivial rfl rfl Try.underlying30 rfl I28 rfl rfl ?_
    refine G.loadAt (by first | exact .here | exact .next .here | exact .next (.next .here) | exact .next (.next (.next .here)) | exact .next (.next (.next (.next .here))) | exact .next (.next (.next (.next (.next .here)))) | exact .next (.next (.next (.next (.next (.next .here))))) | exact .next (.next (.next (.next (.next (.next (.next .here)))))) | exact .in1 | exact .next .in1 | exact .next (.next .in1) | exact .next (.next (.next .in1)) | exact .next (.next (.next (.next .in1))) | exact .in2 | exact .next .in2 | exact .next (.next .in2) | exact .next (.next (.next .in2)) | exact .next (.next (.next (.next .in2))) | exact .app .here | exact .app (.next .here) | exact .app (.next (.next .here)) | exact .app (.next (.next (.next .here))) | exact .app (.next (.next (.next (.next .here)))) | exact .app (.next (.next (.next (.next (.next .here))))) | exact .app (.next (.next (.next (.next (.next (.next .here)))))) | exact .app (.next (.next (.next (.next (.next (.next (.next .here))))))) | exact .app .in1 | exact .app .in2 | exact .app (.next .in1) | exact .next (.app .in1) | exact .next (.next (.app .in1)) | exact .next (.app .here) | exact .next (.next (.app .here)) | exact .next (.next (.next (.app .here))) | exact .next (.next (.next (.next (.app .here))))) rfl trivial rfl rfl Try.underlying28 rfl rfl (by rfl) ?_
    refine G.moveI rfl trivial rfl rfl rfl ?_
    refine G.indexAddr rfl trivial rfl rfl Try.underlying28 I81 rfl rfl (by omega) ?_
    refine G.fieldAddr rfl trivial rfl rfl Try.underlying81 rfl I2 rfl rfl ?_
    refine G.loadAt (.next .here) rfl trivial rfl rfl Try.underlying2 rfl rfl o1 ?_
    refine G.moveI rfl trivial rfl rfl rfl ?_
    refine G.bin rfl trivial rfl rfl rfl rfl rfl ?_
    refine G.nil ?_
    refine C.cond _ rfl ?_ ?_
    · intro hc1
      refine C.region ?_
      refine G.moveS rfl trivial rfl rfl rfl ?_
      refine G.moveP rfl trivial rfl rfl rfl ?_
      first | refine G.nilCheckP rfl trivial rfl rfl rfl ?_ | refine G.nilCheckF rfl trivial rfl rfl rfl ?_
      refine G.fieldAddr rfl trivial rfl rfl Try.underlying30 rfl I28 rfl rfl ?_
      refine G.loadAt (by first | exact .here | exact .next .here | exact .next (.next .here) | exact .next (.next (.next .here)) | exact .next (.next (.next (.next .here))) | exact .next (.next (.next (.next (.next .here)))) | exact .next (.next (.next (.next (.next (.next .here))))) | exact .next (.next (.next (.next (.next (.next (.next .here)))))) | exact .in1 | exact .next .in1 | exact .next (.next .in1) | exact .next (.next (.next .in1)) | exact .next (.next (.next (.next .in1))) | exact .in2 | exact .next .in2 | exact .next (.next .in2) | exact .next (.next (.next .in2)) | exact .next (.next (.next (.next .in2))) | exact .app .here | exact .app (.next .here) | exact .app (.next (.next .here)) | exact .app (.next (.next (.next .here))) | exact .app (.next (.next (.next (.next .here)))) | exact .app (.next (.next (.next (.next (.next .here))))) | exact .app (.next (.next (.next (.next (.next (.next .here)))))) | exact .app (.next (.next (.next (.next (.next (.next (.next .here))))))) | exact .app .in1 | exact .app .in2 | exact .app (.next .in1) | exact .next (.app .in1) | exact .next (.next (.app .in1)) | exact .next (.app .here) | exact .next (.next (.app .here)) | exact .next (.next (.next (.app .here))) | exact .next (.next (.next (.next (.app .here))))) rfl trivial rfl rfl Try.underlying28 rfl rfl (by rfl) ?_
      refine G.moveI rfl trivial rfl rfl rfl ?_
      refine G.indexAddr rfl trivial rfl rfl Try.underlying28 I81 rfl rfl (by omega) ?_
      refine G.loadAgg (oneC ls[i]) rfl trivial rfl rfl Try.underlying81 rfl I81 rfl rfl (fun w hm => agg_of_row hm (.next .here) (by have h := row_chunk (rs := []) (f := oneC) (k := 3) (fun _ _ => rfl) hlt; rw [List.append_nil] at h; exact h)) ?_
      refine G.buildSliceL (cs := oneC ls[i]) (zs := [(.int .i64 0), (.int .i64 0), (.string ByteArray.empty)]) rfl trivial rfl rfl Try.underlying28 I81 rfl (by kernel_rfl) rfl rfl ?_
      intro b35
      refine G.less (fun _ h => h.perm2) ?_
      refine G.append hot rfl trivial rfl rfl Try.underlying28 Try.underlying28 I81 rfl (by decide) rfl rfl (by decide) (Rd.row0 (.next .here)) rfl (oneC_ok _) (by omega) ?_
      intro v36 s36 hv36
      obtain ⟨a36, c36, rfl, _⟩ := hv36.form
      refine G.assignS rfl trivial rfl rfl rfl ?_
      refine G.nil ?_
      refine C.region ?_
      refine G.moveI rfl trivial rfl rfl rfl ?_
      refine G.addN (j := 1) rfl trivial rfl rfl rfl rfl (by omega) ?_
      refine G.assignI rfl trivial rfl rfl rfl ?_
      refine G.less (fun _ h => h.skip1) ?_
      refine G.nil ?_
      have e1 : others t (ls.take (i + 1)) = others t (ls.take i) ++ [ls[i]] := by rw [hsn, if_pos hc1]
      exact ⟨ls.length - (i + 1) + 0, by omega, i + 1, a36, c36, s36, rfl, by omega, by rw [e1, List.length_append, List.flatMap_append]; simpa using hv36, rfl, rfl, by rw [e1, List.length_append]; rfl, rfl, rfl, rfl⟩
    · intro hc1
      refine C.skip ?_
      refine C.region ?_
      refine G.moveI rfl trivial rfl rfl rfl ?_
      refine G.addN (j := 1) rfl trivial rfl rfl rfl rfl (by omega) ?_
      refine G.assignI rfl trivial rfl rfl rfl ?_
      refine G.nil ?_
      have e1 : others t (ls.take (i + 1)) = others t (ls.take i) := by rw [hsn, if_neg hc1]
      exact ⟨ls.length - (i + 1) + 0, by omega, i + 1, ao, co, so, rfl, by omega, by rw [e1]; exact hot, rfl, rfl, by rw [e1]; rfl, rfl, rfl, rfl⟩
  · intro hc0
    rw [List.take_of_length_le (show ls.length ≤ i by omega)] at hot h5 ⊢
    refine C.exit ?_
    refine C.seq ?_
    refine C.region ?_
    refine G.moveP rfl trivial rfl rfl rfl ?_
    first | refine G.nilCheckP rfl trivial rfl rfl rfl ?_ | refine G.nilCheckF rfl trivial rfl rfl rfl ?_
    refine G.fieldAddr rfl trivial rfl rfl Try.underlying30 rfl I28 rfl rfl ?_
    refine G.loadAt (by first | exact .here | exact .next .here | exact .next (.next .here) | exact .next (.next (.next .here)) | exact .next (.next (.next (.next .here))) | exact .next (.next (.next (.next (.next .here)))) | exact .next (.next (.next (.next (.next (.next .here))))) | exact .next (.next (.next (.next (.next (.next (.next .here)))))) | exact .in1 | exact .next .in1 | exact .next (.next .in1) | exact .next (.next (.next .in1)) | exact .next (.next (.next (.next .in1))) | exact .in2 | exact .next .in2 | exact .next (.next .in2) | exact .next (.next (.next .in2)) | exact .next (.next (.next (.next .in2))) | exact .app .here | exact .app (.next .here) | exact .app (.next (.next .here)) | exact .app (.next (.next (.next .here))) | exact .app (.next (.next (.next (.next .here)))) | exact .app (.next (.next (.next (.next (.next .here))))) | exact .app (.next (.next (.next (.next (.next (.next .here)))))) | exact .app (.next (.next (.next (.next (.next (.next (.next .here))))))) | exact .app .in1 | exact .app .in2 | exact .app (.next .in1) | exact .next (.app .in1) | exact .next (.next (.app .in1)) | exact .next (.app .here) | exact .next (.next (.app .here)) | exact .next (.next (.next (.app .here))) | exact .next (.next (.next (.next (.app .here))))) rfl trivial rfl rfl Try.underlying28 rfl rfl (by rfl) ?_
    refine G.lenSlice rfl trivial rfl rfl Try.underlying28 rfl ?_
    refine G.moveS rfl trivial rfl rfl rfl ?_
    refine G.lenSlice rfl trivial rfl rfl Try.underlying28 rfl ?_
    refine G.subN rfl trivial rfl rfl rfl rfl (by omega) ?_
    refine G.assignI rfl trivial rfl rfl rfl ?_
    refine G.nil ?_
    refine C.seq ?_
    refine C.region ?_
    refine G.moveP rfl trivial rfl rfl rfl ?_
    refine G.moveS rfl trivial rfl rfl rfl ?_
    first | refine G.nilCheckP rfl trivial rfl rfl rfl ?_ | refine G.nilCheckF rfl trivial rfl rfl rfl ?_
    refine G.fieldAddr rfl trivial rfl rfl Try.underlying30 rfl I28 rfl rfl ?_
    refine G.store (v := .slice _ _ _) (by first | exact .here | exact .next .here | exact .next (.next .here) | exact .next (.next (.next .here)) | exact .next (.next (.next (.next .here))) | exact .next (.next (.next (.next (.next .here)))) | exact .next (.next (.next (.next (.next (.next .here))))) | exact .next (.next (.next (.next (.next (.next (.next .here)))))) | exact .in1 | exact .next .in1 | exact .next (.next .in1) | exact .next (.next (.next .in1)) | exact .next (.next (.next (.next .in1))) | exact .in2 | exact .next .in2 | exact .next (.next .in2) | exact .next (.next (.next .in2)) | exact .next (.next (.next (.next .in2))) | exact .app .here | exact .app (.next .here) | exact .app (.next (.next .here)) | exact .app (.next (.next (.next .here))) | exact .app (.next (.next (.next (.next .here)))) | exact .app (.next (.next (.next (.next (.next .here))))) | exact .app (.next (.next (.next (.next (.next (.next .here)))))) | exact .app (.next (.next (.next (.next (.next (.next (.next .here))))))) | exact .app .in1 | exact .app .in2 | exact .app (.next .in1) | exact .next (.app .in1) | exact .next (.next (.app .in1)) | exact .next (.app .here) | exact .next (.next (.app .here)) | exact .next (.next (.next (.app .here))) | exact .next (.next (.next (.next (.app .here))))) rfl trivial rfl I28 rfl rfl rfl (by first | decide | (simp; done) | (simp; omega)) _ (by first | (simp only [List.set_cons_succ, List.set_cons_zero]; done) | (simp only [List.set_cons_succ, List.set_cons_zero]; exact rfl) | exact rfl) ?_
    refine G.nil ?_
    refine C.seq ?_
    refine C.region ?_
    refine G.moveI rfl trivial rfl rfl rfl ?_
    refine G.assignI rfl trivial rfl rfl rfl ?_
    refine G.nil ?_
    refine C.less (fun _ h => h.skip1) ?_
    refine C.ret ?_
    -- end c0F
    exact ⟨rfl, _, Res.of (rs := [.tmp 4]) rfl rfl, _, _, ⟨_, hot, rfl⟩, rfl, rfl⟩
theorem rlockK (ls : List One) (s1 s2 : Seg) (h : RfK bw x3 y3 ls s1 s2) (hl : ls.length ≤ 900) (hms : Modes ls) (t mo : Int) (k : ByteArray) (hm : 1 ≤ mo ∧ mo ≤ 3) : FnS Try.prog W0 28 #[.pointer (some ⟨bw, 1, none⟩), .int .i64 t, .int .i64 mo, .string k] (s1 :: s2 :: L0)
    (fun e L' => ∃ v sv s1' s2', RfK bw x3 y3 (locked (lockOf t mo k) ls) s1' s2' ∧ OwnS v (insAll (onL (lockOf t mo k) ls)).length ((insAll (onL (lockOf t mo k) ls)).map (Value.int .i64)) 2 1 sv ∧ L' = sv :: s1' :: s2' :: L0 ∧ e = .returned (.tuple #[v, .bool (decide (onL (lockOf t mo k) ls = []))])) := by
  obtain ⟨v, hv, rfl⟩ := h
  obtain ⟨a, c, rfl, _⟩ := hv.form
  have hxm : 1 ≤ (lockOf t mo k).2.1 ∧ (lockOf t mo k).2.1 ≤ 3 := hm
  generalize hx : lockOf t mo k = x at hxm ⊢
  refine FnS.of (args := [.pointer (some ⟨bw, 1, none⟩), .int .i64 t, .int .i64 mo, .string k]) Try.func28 rfl rfl ?_
  refine C.seq ?_
  refine C.region ?_
  refine G.assignS rfl trivial rfl rfl rfl ?_
  refine G.assignB rfl trivial rfl rfl rfl ?_
  refine G.nil ?_
  refine C.seq ?_
  refine C.seq ?_
  refine C.region ?_
  refine G.moveI rfl trivial rfl rfl rfl ?_
  refine G.bin rfl trivial rfl rfl rfl rfl rfl ?_
  refine G.moveB rfl trivial rfl rfl rfl ?_
  refine G.no (t := 15) rfl (by omega) ?_
  refine G.moveI rfl ⟨_, rfl, rfl, rfl⟩ rfl rfl rfl ?_
  refine G.bin rfl ⟨_, rfl, rfl, rfl⟩ rfl rfl rfl rfl rfl ?_
  first | refine G.pickT rfl trivial rfl rfl rfl rfl ?_ | refine G.pickF rfl trivial rfl rfl rfl rfl ?_
  refine G.nil ?_
  refine C.no rfl (by omega) ?_
  refine C.skip ?_
  refine C.cut (fun F D' L' => ∃ k1 : ByteArray, (t, mo, k1) = x ∧ F 0 = .pointer (some ⟨bw, 1, none⟩) ∧ F 1 = .int .i64 t ∧ F 2 = .int .i64 mo ∧ F 3 = .string k1 ∧ D' = [] ∧ s1 :: [(bw, .row [x3, .slice a ls.length c, y3] 35 3)] :: L0 = L') ?_ ?_
  ·
    refine C.seq ?_
    refine C.region ?_
    refine G.moveI rfl trivial rfl rfl rfl ?_
    refine G.bin rfl trivial rfl rfl rfl rfl rfl ?_
    refine G.nil ?_
    refine C.cond _ rfl ?_ ?_
    · intro hc1
      refine C.region ?_
      refine G.assignT rfl trivial rfl rfl rfl ?_
      refine G.nil ?_
      exact ⟨ByteArray.empty, by rw [← hx]; unfold lockOf; rw [if_pos hc1], rfl, rfl, rfl, rfl, rfl, rfl⟩
    · intro hc1
      refine C.skip ?_
      exact ⟨k, by rw [← hx]; unfold lockOf; rw [if_neg hc1], rfl, rfl, rfl, rfl, rfl, rfl⟩
  ·
    rintro F D' L' ⟨k1, rfl, h0, h1, h2, h3, rfl, rfl⟩
    refine C.fix (d := 0) h0 ?_
    refine C.fix (d := 1) h1 ?_
    refine C.fix (d := 2) h2 ?_
    refine C.fix (d := 3) h3 ?_
    refine C.seq ?_
    refine C.region ?_
    refine G.moveI rfl trivial rfl rfl rfl ?_
    refine G.moveI rfl trivial rfl rfl rfl ?_
    refine G.moveT rfl trivial rfl rfl rfl ?_
    refine G.buildL (cs := oneC (t, mo, k1)) rfl trivial rfl rfl Try.underlying81 I81 B81 rfl rfl ?_
    refine G.allocC (cs := [(.int .i64 0), (.int .i64 0), (.string ByteArray.empty)]) rfl trivial rfl rfl I81 rfl ?_
    intro b10
    refine G.stRow (by first | exact .here | exact .next .here | exact .next (.next .here) | exact .next (.next (.next .here)) | exact .next (.next (.next (.next .here))) | exact .next (.next (.next (.next (.next .here)))) | exact .next (.next (.next (.next (.next (.next .here))))) | exact .next (.next (.next (.next (.next (.next (.next .here)))))) | exact .in1 | exact .next .in1 | exact .next (.next .in1) | exact .next (.next (.next .in1)) | exact .next (.next (.next (.next .in1))) | exact .in2 | exact .next .in2 | exact .next (.next .in2) | exact .next (.next (.next .in2)) | exact .next (.next (.next (.next .in2))) | exact .app .here | exact .app (.next .here) | exact .app (.next (.next .here)) | exact .app (.next (.next (.next .here))) | exact .app (.next (.next (.next (.next .here)))) | exact .app (.next (.next (.next (.next (.next .here))))) | exact .app (.next (.next (.next (.next (.next (.next .here)))))) | exact .app (.next (.next (.next (.next (.next (.next (.next .here))))))) | exact .app .in1 | exact .app .in2 | exact .app (.next .in1) | exact .next (.app .in1) | exact .next (.next (.app .in1)) | exact .next (.app .here) | exact .next (.next (.app .here)) | exact .next (.next (.next (.app .here))) | exact .next (.next (.next (.next (.app .here))))) rfl trivial rfl I81 rfl rfl rfl (by rfl) (by first | exact oneC_ok _ | simp [cellsOk]) ?_
    refine G.nil ?_
    refine C.seq ?_
    refine C.region ?_
    refine G.assignS rfl trivial rfl rfl rfl ?_
    refine G.less (fun _ h => h.empty) ?_
    generalize hxx : ((t, mo, k1) : One) = x at hx hxm ⊢
    refine G.nil ?_
    refine C.seq ?_
    refine C.seq ?_
    refine C.region ?_
    refine G.assignI rfl trivial rfl rfl rfl ?_
    refine G.nil ?_
    refine C.block ?_
    refine C.loop (fun m F D' L' => ∃ (i : Nat) (ao : Option Addr) (co : Nat) (so : Seg), m = ls.length - i + 0 ∧ i ≤ ls.length ∧ OwnS (.slice ao (insAll (onL x (ls.take i))).length co) (insAll (onL x (ls.take i))).length ((insAll (onL x (ls.take i))).map (Value.int .i64)) 2 1 so ∧ F 0 = .pointer (some ⟨bw, 1, none⟩) ∧ F 1 = .int .i64 t ∧ F 2 = .int .i64 mo ∧ F 3 = .string k1 ∧ F 10 = .pointer (some ⟨b10, 0, none⟩) ∧ F 11 = .slice ao (insAll (onL x (ls.take i))).length co ∧ F 12 = .int .i64 (i : Int) ∧ D' = [] ∧ so :: [(b10, .row (oneC x) 81 3)] :: s1 :: [(bw, .row [x3, .slice a ls.length c, y3] 35 3)] :: L0 = L') ⟨_, ⟨0, none, 0, [], rfl, Nat.zero_le _, OwnS.nil _ _, rfl, rfl, rfl, rfl, rfl, rfl, rfl, rfl, by rw [← hxx]; rfl⟩⟩ ?_
    rintro m F D' L' ⟨i, ao, co, so, rfl, hi, hon, h0, h1, h2, h3, h10, h11, h12, rfl, rfl⟩
    refine C.fix (d := 0) h0 ?_
    refine C.fix (d := 1) h1 ?_
    refine C.fix (d := 2) h2 ?_
    refine C.fix (d := 3) h3 ?_
    refine C.fix (d := 10) h10 ?_
    refine C.fix (d := 11) h11 ?_
    refine C.fix (d := 12) h12 ?_
    refine C.seq ?_
    refine C.seq ?_
    refine C.region ?_
    refine G.moveI rfl trivial rfl rfl rfl ?_
    refine G.moveP rfl trivial rfl rfl rfl ?_
    first | refine G.nilCheckP rfl trivial rfl rfl rfl ?_ | refine G.nilCheckF rfl trivial rfl rfl rfl ?_
    refine G.fieldAddr rfl trivial rfl rfl Try.underlying30 rfl I28 rfl rfl ?_
    refine G.loadAt (by first | exact .here | exact .next .here | exact .next (.next .here) | exact .next (.next (.next .here)) | exact .next (.next (.next (.next .here))) | exact .next (.next (.next (.next (.next .here)))) | exact .next (.next (.next (.next (.next (.next .here))))) | exact .next (.next (.next (.next (.next (.next (.next .here)))))) | exact .in1 | exact .next .in1 | exact .next (.next .in1) | exact .next (.next (.next .in1)) | exact .next (.next (.next (.next .in1))) | exact .in2 | exact .next .in2 | exact .next (.next .in2) | exact .next (.next (.next .in2)) | exact .next (.next (.next (.next .in2))) | exact .app .here | exact .app (.next .here) | exact .app (.next (.next .here)) | exact .app (.next (.next (.next .here))) | exact .app (.next (.next (.next (.next .here)))) | exact .app (.next (.next (.next (.next (.next .here))))) | exact .app (.next (.next (.next (.next (.next (.next .here)))))) | exact .app (.next (.next (.next (.next (.next (.next (.next .here))))))) | exact .app .in1 | exact .app .in2 | exact .app (.next .in1) | exact .next (.app .in1) | exact .next (.next (.app .in1)) | exact .next (.app .here) | exact .next (.next (.app .here)) | exact .next (.next (.next (.app .here))) | exact .next (.next (.next (.next (.app .here))))) rfl trivial rfl rfl Try.underlying28 rfl rfl (by rfl) ?_
    refine G.lenSlice rfl trivial rfl rfl Try.underlying28 rfl ?_
    refine G.bin rfl trivial rfl rfl rfl rfl rfl ?_
    refine G.nil ?_
    refine C.cond _ rfl ?_ ?_
    · intro hc2
      have hlt : i < ls.length := by omega
      obtain ⟨bq, cq, kq, hveq, rfl, hq1, hq2⟩ := hv.block (by omega)
      cases hveq
      obtain ⟨o1, _, _⟩ := one_at hlt
      have hot := onL_take (x := x) hlt
      have hol := onL_le x (ls.take i)
      rw [List.length_take] at hol
      have hal := insAll_length _ (onL x (ls.take i)) rfl
      refine C.skip ?_
      refine C.seq ?_
      refine C.block ?_
      refine C.seq ?_
      refine C.drawn mixed (_) [] (fun _ h => h) ?_
      refine GA.read (i := 0) (fun _ _ _ _ _ h => h) rfl (by kernel_rfl) (by kernel_rfl) trivial rfl rfl (Y.loadRow (by first | exact .here | exact .next .here | exact .next (.next .here) | exact .next (.next (.next .here)) | exact .next (.next (.next (.next .here))) | exact .next (.next (.next (.next (.next .here)))) | exact .next (.next (.next (.next (.next (.next .here))))) | exact .next (.next (.next (.next (.next (.next (.next .here)))))) | exact .in1 | exact .next .in1 | exact .next (.next .in1) | exact .next (.next (.next .in1)) | exact .next (.next (.next (.next .in1))) | exact .in2 | exact .next .in2 | exact .next (.next .in2) | exact .next (.next (.next .in2)) | exact .next (.next (.next (.next .in2))) | exact .app .here | exact .app (.next .here) | exact .app (.next (.next .here)) | exact .app (.next (.next (.next .here))) | exact .app (.next (.next (.next (.next .here)))) | exact .app (.next (.next (.next (.next (.next .here))))) | exact .app (.next (.next (.next (.next (.next (.next .here)))))) | exact .app (.next (.next (.next (.next (.next (.next (.next .here))))))) | exact .app .in1 | exact .app .in2 | exact .app (.next .in1) | exact .next (.app .in1) | exact .next (.next (.app .in1)) | exact .next (.app .here) | exact .next (.next (.app .here)) | exact .next (.next (.next (.app .here))) | exact .next (.next (.next (.next (.app .here))))) rfl Try.underlying81 rfl I81 rfl rfl) (#[true, false, false, false, false, false, false, false, false]) (by kernel_rfl) ?_
      refine GA.pure (i := 1) (fun _ _ _ _ _ h => h) rfl (by kernel_rfl) trivial rfl rfl (Y.moveP rfl rfl) (#[true, true, false, false, false, false, false, false, false]) (by kernel_rfl) ?_
      first | refine GA.pure (i := 2) (fun _ _ _ _ _ h => h) rfl (by kernel_rfl) trivial rfl rfl (Y.nilCheckP rfl rfl) (#[true, true, true, false, false, false, false, false, false]) (by kernel_rfl) ?_ | refine GA.pure (i := 2) (fun _ _ _ _ _ h => h) rfl (by kernel_rfl) trivial rfl rfl (Y.nilCheckF rfl rfl) (#[true, true, true, false, false, false, false, false, false]) (by kernel_rfl) ?_
      refine GA.pure (i := 3) (fun _ _ _ _ _ h => h) rfl (by kernel_rfl) trivial rfl rfl (Y.fieldAddr rfl Try.underlying30 rfl I28 rfl rfl) (#[true, true, true, true, false, false, false, false, false]) (by kernel_rfl) ?_
      refine GA.read (i := 4) (fun _ _ _ _ _ h => h) rfl (by kernel_rfl) (by kernel_rfl) trivial rfl rfl (Y.loadAt (by first | exact .here | exact .next .here | exact .next (.next .here) | exact .next (.next (.next .here)) | exact .next (.next (.next (.next .here))) | exact .next (.next (.next (.next (.next .here)))) | exact .next (.next (.next (.next (.next (.next .here))))) | exact .next (.next (.next (.next (.next (.next (.next .here)))))) | exact .in1 | exact .next .in1 | exact .next (.next .in1) | exact .next (.next (.next .in1)) | exact .next (.next (.next (.next .in1))) | exact .in2 | exact .next .in2 | exact .next (.next .in2) | exact .next (.next (.next .in2)) | exact .next (.next (.next (.next .in2))) | exact .app .here | exact .app (.next .here) | exact .app (.next (.next .here)) | exact .app (.next (.next (.next .here))) | exact .app (.next (.next (.next (.next .here)))) | exact .app (.next (.next (.next (.next (.next .here))))) | exact .app (.next (.next (.next (.next (.next (.next .here)))))) | exact .app (.next (.next (.next (.next (.next (.next (.next .here))))))) | exact .app .in1 | exact .app .in2 | exact .app (.next .in1) | exact .next (.app .in1) | exact .next (.next (.app .in1)) | exact .next (.app .here) | exact .next (.next (.app .here)) | exact .next (.next (.next (.app .here))) | exact .next (.next (.next (.next (.app .here))))) rfl Try.underlying28 rfl rfl (by rfl)) (#[true, true, true, true, true, false, false, false, false]) (by kernel_rfl) ?_
      refine GA.pure (i := 5) (fun _ _ _ _ _ h => h) rfl (by kernel_rfl) trivial rfl rfl (Y.moveI rfl rfl) (#[true, true, true, true, true, true, false, false, false]) (by kernel_rfl) ?_
      refine GA.pure (i := 6) (fun _ _ _ _ _ h => h) rfl (by kernel_rfl) trivial rfl rfl (Y.indexAddr rfl Try.underlying28 I81 rfl rfl (by omega)) (#[true, true, true, true, true, true, true, false, false]) (by kernel_rfl) ?_
      refine GA.read (i := 7) (fun _ _ _ _ _ h => h) rfl (by kernel_rfl) (by kernel_rfl) trivial rfl rfl (Y.loadAgg (oneC ls[i]) rfl Try.underlying81 rfl I81 rfl rfl (fun w hm => agg_of_row hm (.next (.next .here)) (by have h := row_chunk (rs := []) (f := oneC) (k := 3) (fun _ _ => rfl) hlt; rw [List.append_nil] at h; exact h))) (#[true, true, true, true, true, true, true, true, false]) (by kernel_rfl) ?_
      refine GA.one (i := 8) rfl (by kernel_rfl) (#[true, true, true, true, true, true, true, true, true]) (by kernel_rfl) ?_
      refine G.call E45 rfl rfl trivial rfl rfl (ragainst_spec W0 _ x ls[i] hxm (hms _ (List.getElem_mem hlt))) rfl ?_
      rintro e L2 ⟨rfl, rfl⟩
      refine G.nil ?_
      refine ⟨fun _ _ h => h, ?_⟩
      refine GA.done (by kernel_rfl) ?_
      refine C.condB _ rfl ?_ ?_
      · intro hc3
        refine C.region ?_
        refine G.moveS rfl trivial rfl rfl rfl ?_
        refine G.moveP rfl trivial rfl rfl rfl ?_
        first | refine G.nilCheckP rfl trivial rfl rfl rfl ?_ | refine G.nilCheckF rfl trivial rfl rfl rfl ?_
        refine G.fieldAddr rfl trivial rfl rfl Try.underlying30 rfl I28 rfl rfl ?_
        refine G.loadAt (by first | exact .here | exact .next .here | exact .next (.next .here) | exact .next (.next (.next .here)) | exact .next (.next (.next (.next .here))) | exact .next (.next (.next (.next (.next .here)))) | exact .next (.next (.next (.next (.next (.next .here))))) | exact .next (.next (.next (.next (.next (.next (.next .here)))))) | exact .in1 | exact .next .in1 | exact .next (.next .in1) | exact .next (.next (.next .in1)) | exact .next (.next (.next (.next .in1))) | exact .in2 | exact .next .in2 | exact .next (.next .in2) | exact .next (.next (.next .in2)) | exact .next (.next (.next (.next .in2))) | exact .app .here | exact .app (.next .here) | exact .app (.next (.next .here)) | exact .app (.next (.next (.next .here))) | exact .app (.next (.next (.next (.next .here)))) | exact .app (.next (.next (.next (.next (.next .here))))) | exact .app (.next (.next (.next (.next (.next (.next .here)))))) | exact .app (.next (.next (.next (.next (.next (.next (.next .here))))))) | exact .app .in1 | exact .app .in2 | exact .app (.next .in1) | exact .next (.app .in1) | exact .next (.next (.app .in1)) | exact .next (.app .here) | exact .next (.next (.app .here)) | exact .next (.next (.next (.app .here))) | exact .next (.next (.next (.next (.app .here))))) rfl trivial rfl rfl Try.underlying28 rfl rfl (by rfl) ?_
        refine G.moveI rfl trivial rfl rfl rfl ?_
        refine G.indexAddr rfl trivial rfl rfl Try.underlying28 I81 rfl rfl (by omega) ?_
        refine G.fieldAddr rfl trivial rfl rfl Try.underlying81 rfl I2 rfl rfl ?_
        refine G.loadAt (.next (.next .here)) rfl trivial rfl rfl Try.underlying2 rfl rfl o1 ?_
        refine G.call E25 rfl rfl trivial rfl rfl (insert_spec W0 _ _ (insAll (onL x (ls.take i))) so hon (by omega) ls[i].1) rfl ?_
        rintro e L2 ⟨v52, s52, hv52, rfl, rfl⟩
        obtain ⟨a52, c52, rfl, _⟩ := hv52.form
        refine G.assignS rfl trivial rfl rfl rfl ?_
        refine G.nil ?_
        refine C.region ?_
        refine G.moveI rfl trivial rfl rfl rfl ?_
        refine G.addN (j := 1) rfl trivial rfl rfl rfl rfl (by omega) ?_
        refine G.assignI rfl trivial rfl rfl rfl ?_
        refine G.nil ?_
        have e1 : insAll (onL x (ls.take (i + 1))) = insL (insAll (onL x (ls.take i))) ls[i].1 := by rw [hot, if_pos hc3, insAll_snoc]
        exact ⟨ls.length - (i + 1) + 0, by omega, i + 1, a52, c52, s52, rfl, by omega, by rw [e1]; exact hv52, rfl, rfl, rfl, rfl, rfl, by rw [e1]; rfl, rfl, rfl, rfl⟩
      · intro hc3
        refine C.skip ?_
        refine C.region ?_
        refine G.moveI rfl trivial rfl rfl rfl ?_
        refine G.addN (j := 1) rfl trivial rfl rfl rfl rfl (by omega) ?_
        refine G.assignI rfl trivial rfl rfl rfl ?_
        refine G.nil ?_
        have e1 : onL x (ls.take (i + 1)) = onL x (ls.take i) := by rw [hot, if_neg (by rw [hc3]; decide)]
        exact ⟨ls.length - (i + 1) + 0, by omega, i + 1, ao, co, so, rfl, by omega, by rw [e1]; exact hon, rfl, rfl, rfl, rfl, rfl, by rw [e1]; rfl, rfl, rfl, rfl⟩
    · intro hc2
      rw [List.take_of_length_le (show ls.length ≤ i by omega)] at hon h11 ⊢
      have hfull : (insAll (onL x ls)).length = 0 ↔ onL x ls = [] := insAll_nil _
      refine C.exit ?_
      refine C.seq ?_
      refine C.seq ?_
      refine C.region ?_
      refine G.moveS rfl trivial rfl rfl rfl ?_
      refine G.lenSlice rfl trivial rfl rfl Try.underlying27 rfl ?_
      refine G.bin rfl trivial rfl rfl rfl rfl rfl ?_
      refine G.nil ?_
      refine C.cond _ rfl ?_ ?_
      · intro hc4
        refine C.seq ?_
        refine C.region ?_
        refine G.moveS rfl trivial rfl rfl rfl ?_
        refine G.assignS rfl trivial rfl rfl rfl ?_
        refine G.assignB rfl trivial rfl rfl rfl ?_
        refine G.nil ?_
        refine C.less (fun _ h => h.skip1) ?_
        refine C.ret ?_
        -- end c2Fc4T
        have hne : onL x ls ≠ [] := by intro h; have := hfull.2 h; omega
        exact ⟨rfl, _, Res.of (rs := [.tmp 8, .tmp 9]) rfl rfl, _, so, s1, _, ⟨_, by unfold locked; rw [if_neg hne]; exact hv, rfl⟩, hon, rfl, by rw [decide_eq_false hne]; rfl⟩
      · intro hc4
        have hno : onL x ls = [] := hfull.1 (by omega)
        refine C.less (fun _ h => h.tail) ?_
        refine C.skip ?_
        refine C.seq ?_
        refine C.seq ?_
        refine C.region ?_
        refine G.moveP rfl trivial rfl rfl rfl ?_
        refine G.moveI rfl trivial rfl rfl rfl ?_
        refine G.moveI rfl trivial rfl rfl rfl ?_
        refine G.moveT rfl trivial rfl rfl rfl ?_
        refine G.call E46 rfl rfl trivial rfl rfl (FnS.read (rhasK W0 ([(b10, .row (oneC x) 81 3)] :: L0) bw x3 y3 ls s1 [(bw, .row [x3, .slice a ls.length c, y3] 35 3)] ⟨_, hv, rfl⟩ (by omega) t mo k1) P3.symm) rfl ?_
        rintro e L2 ⟨rfl, rfl⟩
        rw [show lockOf t mo k1 = x from lockOf_again hx hxx]
        first | refine G.notD rfl trivial rfl rfl rfl ?_ | refine G.not rfl trivial rfl rfl rfl ?_
        refine G.nil ?_
        refine C.condB _ rfl ?_ ?_
        · intro hc5
          refine C.drawn mixed (_) [7, 10] (fun _ h => h) ?_
          refine GA.pure (i := 0) (fun _ _ _ _ _ h => h) rfl (by kernel_rfl) trivial rfl rfl (Y.moveP rfl rfl) (#[true, false, false, false, false, false, false, false, false, false, false]) (by kernel_rfl) ?_
          refine GA.pure (i := 1) (fun _ _ _ _ _ h => h) rfl (by kernel_rfl) trivial rfl rfl (Y.moveP rfl rfl) (#[true, true, false, false, false, false, false, false, false, false, false]) (by kernel_rfl) ?_
          first | refine GA.pure (i := 2) (fun _ _ _ _ _ h => h) rfl (by kernel_rfl) trivial rfl rfl (Y.nilCheckP rfl rfl) (#[true, true, true, false, false, false, false, false, false, false, false]) (by kernel_rfl) ?_ | refine GA.pure (i := 2) (fun _ _ _ _ _ h => h) rfl (by kernel_rfl) trivial rfl rfl (Y.nilCheckF rfl rfl) (#[true, true, true, false, false, false, false, false, false, false, false]) (by kernel_rfl) ?_
          refine GA.pure (i := 3) (fun _ _ _ _ _ h => h) rfl (by kernel_rfl) trivial rfl rfl (Y.fieldAddr rfl Try.underlying30 rfl I28 rfl rfl) (#[true, true, true, true, false, false, false, false, false, false, false]) (by kernel_rfl) ?_
          refine GA.read (i := 4) (fun _ _ _ _ _ h => h) rfl (by kernel_rfl) (by kernel_rfl) trivial rfl rfl (Y.loadAt (by first | exact .here | exact .next .here | exact .next (.next .here) | exact .next (.next (.next .here)) | exact .next (.next (.next (.next .here))) | exact .next (.next (.next (.next (.next .here)))) | exact .next (.next (.next (.next (.next (.next .here))))) | exact .next (.next (.next (.next (.next (.next (.next .here)))))) | exact .in1 | exact .next .in1 | exact .next (.next .in1) | exact .next (.next (.next .in1)) | exact .next (.next (.next (.next .in1))) | exact .in2 | exact .next .in2 | exact .next (.next .in2) | exact .next (.next (.next .in2)) | exact .next (.next (.next (.next .in2))) | exact .app .here | exact .app (.next .here) | exact .app (.next (.next .here)) | exact .app (.next (.next (.next .here))) | exact .app (.next (.next (.next (.next .here)))) | exact .app (.next (.next (.next (.next (.next .here))))) | exact .app (.next (.next (.next (.next (.next (.next .here)))))) | exact .app (.next (.next (.next (.next (.next (.next (.next .here))))))) | exact .app .in1 | exact .app .in2 | exact .app (.next .in1) | exact .next (.app .in1) | exact .next (.next (.app .in1)) | exact .next (.app .here) | exact .next (.next (.app .here)) | exact .next (.next (.next (.app .here))) | exact .next (.next (.next (.next (.app .here))))) rfl Try.underlying28 rfl rfl (by rfl)) (#[true, true, true, true, true, false, false, false, false, false, false]) (by kernel_rfl) ?_
          refine GA.read (i := 5) (fun _ _ _ _ _ h => h) rfl (by kernel_rfl) (by kernel_rfl) trivial rfl rfl (Y.loadRow (by first | exact .here | exact .next .here | exact .next (.next .here) | exact .next (.next (.next .here)) | exact .next (.next (.next (.next .here))) | exact .next (.next (.next (.next (.next .here)))) | exact .next (.next (.next (.next (.next (.next .here))))) | exact .next (.next (.next (.next (.next (.next (.next .here)))))) | exact .in1 | exact .next .in1 | exact .next (.next .in1) | exact .next (.next (.next .in1)) | exact .next (.next (.next (.next .in1))) | exact .in2 | exact .next .in2 | exact .next (.next .in2) | exact .next (.next (.next .in2)) | exact .next (.next (.next (.next .in2))) | exact .app .here | exact .app (.next .here) | exact .app (.next (.next .here)) | exact .app (.next (.next (.next .here))) | exact .app (.next (.next (.next (.next .here)))) | exact .app (.next (.next (.next (.next (.next .here))))) | exact .app (.next (.next (.next (.next (.next (.next .here)))))) | exact .app (.next (.next (.next (.next (.next (.next (.next .here))))))) | exact .app .in1 | exact .app .in2 | exact .app (.next .in1) | exact .next (.app .in1) | exact .next (.next (.app .in1)) | exact .next (.app .here) | exact .next (.next (.app .here)) | exact .next (.next (.next (.app .here))) | exact .next (.next (.next (.next (.app .here))))) rfl Try.underlying81 rfl I81 rfl rfl) (#[true, true, true, true, true, true, false, false, false, false, false]) (by kernel_rfl) ?_
          refine GA.one (i := 6) rfl (by kernel_rfl) (#[true, true, true, true, true, true, true, false, false, false, false]) (by kernel_rfl) ?_
          refine G.buildSliceL (cs := oneC x) (zs := [(.int .i64 0), (.int .i64 0), (.string ByteArray.empty)]) rfl trivial rfl rfl Try.underlying28 I81 rfl (by kernel_rfl) rfl rfl ?_
          intro b69
          refine G.nil ?_
          refine ⟨fun _ _ h => h.tail, ?_⟩
          refine GA.less (L' := s1 :: [(b69, .row (oneC x) 81 3)] :: [(b10, .row (oneC x) 81 3)] :: [(bw, .row [x3, .slice a ls.length c, y3] 35 3)] :: L0) (fun _ h => h.up3) ?_
          refine GA.one (i := 7) rfl (by kernel_rfl) (#[true, true, true, true, true, true, true, true, false, false, false]) (by kernel_rfl) ?_
          refine G.append hv rfl trivial rfl rfl Try.underlying28 Try.underlying28 I81 rfl (by decide) rfl rfl (by decide) (Rd.row0 (.next .here)) rfl (oneC_ok _) (by omega) ?_
          intro v70 s70 hv70
          obtain ⟨a70, c70, rfl, _⟩ := hv70.form
          refine G.nil ?_
          refine ⟨fun _ h => absurd h (by simp [hit]), ?_⟩
          first | refine GA.pure (i := 8) (fun _ _ _ _ _ h => h) rfl (by kernel_rfl) trivial rfl rfl (Y.nilCheckP rfl rfl) (#[true, true, true, true, true, true, true, true, true, false, false]) (by kernel_rfl) ?_ | refine GA.pure (i := 8) (fun _ _ _ _ _ h => h) rfl (by kernel_rfl) trivial rfl rfl (Y.nilCheckF rfl rfl) (#[true, true, true, true, true, true, true, true, true, false, false]) (by kernel_rfl) ?_
          refine GA.pure (i := 9) (fun _ _ _ _ _ h => h) rfl (by kernel_rfl) trivial rfl rfl (Y.fieldAddr rfl Try.underlying30 rfl I28 rfl rfl) (#[true, true, true, true, true, true, true, true, true, true, false]) (by kernel_rfl) ?_
          refine GA.one (i := 10) rfl (by kernel_rfl) (#[true, true, true, true, true, true, true, true, true, true, true]) (by kernel_rfl) ?_
          refine G.store (v := .slice _ _ _) (by first | exact .here | exact .next .here | exact .next (.next .here) | exact .next (.next (.next .here)) | exact .next (.next (.next (.next .here))) | exact .next (.next (.next (.next (.next .here)))) | exact .next (.next (.next (.next (.next (.next .here))))) | exact .next (.next (.next (.next (.next (.next (.next .here)))))) | exact .in1 | exact .next .in1 | exact .next (.next .in1) | exact .next (.next (.next .in1)) | exact .next (.next (.next (.next .in1))) | exact .in2 | exact .next .in2 | exact .next (.next .in2) | exact .next (.next (.next .in2)) | exact .next (.next (.next (.next .in2))) | exact .app .here | exact .app (.next .here) | exact .app (.next (.next .here)) | exact .app (.next (.next (.next .here))) | exact .app (.next (.next (.next (.next .here)))) | exact .app (.next (.next (.next (.next (.next .here))))) | exact .app (.next (.next (.next (.next (.next (.next .here)))))) | exact .app (.next (.next (.next (.next (.next (.next (.next .here))))))) | exact .app .in1 | exact .app .in2 | exact .app (.next .in1) | exact .next (.app .in1) | exact .next (.next (.app .in1)) | exact .next (.app .here) | exact .next (.next (.app .here)) | exact .next (.next (.next (.app .here))) | exact .next (.next (.next (.next (.app .here))))) rfl trivial rfl I28 rfl rfl rfl (by first | decide | (simp; done) | (simp; omega)) _ (by first | (simp only [List.set_cons_succ, List.set_cons_zero]; done) | (simp only [List.set_cons_succ, List.set_cons_zero]; exact rfl) | exact rfl) ?_
          refine G.nil ?_
          refine ⟨fun _ h => absurd h (by simp [hit]), ?_⟩
          refine GA.done (by kernel_rfl) ?_
          refine C.seq ?_
          refine C.region ?_
          refine G.assignS rfl trivial rfl rfl rfl ?_
          refine G.assignB rfl trivial rfl rfl rfl ?_
          refine G.nil ?_
          refine C.less (fun _ h => h.skip1.skip1.empty) ?_
          refine C.ret ?_
          -- end c2Fc4Fc5T
          have hin : inL x ls = false := by simpa using hc5
          exact ⟨rfl, _, Res.of (rs := [.tmp 8, .tmp 9]) rfl rfl, _, [], s70, _, ⟨_, by unfold locked; rw [if_pos hno, hin]; simpa using hv70, rfl⟩, by rw [hno]; exact OwnS.nil _ _, rfl, by rw [decide_eq_true hno]; rfl⟩
        · intro hc5
          refine C.skip ?_
          refine C.seq ?_
          refine C.region ?_
          refine G.assignS rfl trivial rfl rfl rfl ?_
          refine G.assignB rfl trivial rfl rfl rfl ?_
          refine G.nil ?_
          refine C.less (fun _ h => h.tail.empty) ?_
          refine C.ret ?_
          -- end c2Fc4Fc5F
          have hin : inL x ls = true := by simpa using hc5
          exact ⟨rfl, _, Res.of (rs := [.tmp 8, .tmp 9]) rfl rfl, _, [], s1, _, ⟨_, by unfold locked; rw [if_pos hno, if_pos hin]; exact hv, rfl⟩, by rw [hno]; exact OwnS.nil _ _, rfl, by rw [decide_eq_true hno]; rfl⟩
theorem rroundK (es : List Edge) (s1 s2 : Seg) (h : RwK bw x3 y3 es s1 s2) (hl : es.length ≤ 900000) (t : Int) (a : Option Addr) (c : Nat) (xs : List Int) (hxs : xs.length ≤ 1000) (hr : Rd W0 (s1 :: s2 :: L0) a (xs.map (Value.int .i64))) :
    FnS Try.prog W0 47 #[.pointer (some ⟨bw, 2, none⟩), .int .i64 t, .slice a xs.length c] (s1 :: s2 :: L0) (fun e L' => L' = s1 :: s2 :: L0 ∧ ∃ b : Bool, (b = true ↔ Rch (gE es) xs t) ∧ e = .returned (.bool b)) := by
  obtain ⟨v, hv, rfl⟩ := h
  obtain ⟨av, cv, rfl, _⟩ := hv.form
  refine FnS.of (args := [.pointer (some ⟨bw, 2, none⟩), .int .i64 t, .slice a xs.length c]) Try.func47 rfl rfl ?_
  refine C.seq ?_
  refine C.region ?_
  refine G.assignB rfl trivial rfl rfl rfl ?_
  refine G.nil ?_
  refine C.seq ?_
  refine C.region ?_
  refine G.assignS rfl trivial rfl rfl rfl ?_
  refine G.nil ?_
  refine C.seq ?_
  refine C.seq ?_
  refine C.region ?_
  refine G.assignI rfl trivial rfl rfl rfl ?_
  refine G.less (fun _ h => h.empty) ?_
  refine G.nil ?_
  refine C.block ?_
  refine C.loop (fun m F D' L' => ∃ (i : Nat) (ao : Option Addr) (co : Nat) (so : Seg), m = xs.length - i + 0 ∧ i ≤ xs.length ∧ OwnS (.slice ao (insAll (xs.take i)).length co) (insAll (xs.take i)).length ((insAll (xs.take i)).map (Value.int .i64)) 2 1 so ∧ F 0 = .pointer (some ⟨bw, 2, none⟩) ∧ F 1 = .int .i64 t ∧ F 2 = .slice a xs.length c ∧ F 7 = .slice ao (insAll (xs.take i)).length co ∧ F 8 = .int .i64 (i : Int) ∧ D' = [] ∧ so :: s1 :: [(bw, .row [x3, y3, .slice av es.length cv] 35 3)] :: L0 = L') ⟨_, ⟨0, none, 0, [], rfl, Nat.zero_le _, OwnS.nil _ _, rfl, rfl, rfl, rfl, rfl, rfl, rfl⟩⟩ ?_
  rintro m F D' L' ⟨i, ao, co, so, rfl, hi, hon, h0, h1, h2, h7, h8, rfl, rfl⟩
  refine C.fix (d := 0) h0 ?_
  refine C.fix (d := 1) h1 ?_
  refine C.fix (d := 2) h2 ?_
  refine C.fix (d := 7) h7 ?_
  refine C.fix (d := 8) h8 ?_
  refine C.seq ?_
  refine C.seq ?_
  refine C.region ?_
  refine G.moveI rfl trivial rfl rfl rfl ?_
  refine G.moveS rfl trivial rfl rfl rfl ?_
  refine G.lenSlice rfl trivial rfl rfl Try.underlying27 rfl ?_
  refine G.bin rfl trivial rfl rfl rfl rfl rfl ?_
  refine G.nil ?_
  refine C.cond _ rfl ?_ ?_
  · intro hc0
    have hlt : i < xs.length := by omega
    obtain ⟨p, o, hao, _⟩ := hr.some_ (by simp; omega)
    subst hao
    have hal := insAll_length _ (xs.take i) rfl
    rw [List.length_take] at hal
    refine C.skip ?_
    refine C.seq ?_
    refine C.block ?_
    refine C.region ?_
    refine G.moveS rfl trivial rfl rfl rfl ?_
    refine G.moveS rfl trivial rfl rfl rfl ?_
    refine G.moveI rfl trivial rfl rfl rfl ?_
    refine G.indexAddr rfl trivial rfl rfl Try.underlying27 I2 rfl rfl (by omega) ?_
    refine G.load rfl trivial rfl rfl Try.underlying2 rfl rfl (rd_at hr.cons hlt) ?_
    refine G.call E25 rfl rfl trivial rfl rfl (insert_spec W0 _ _ (insAll (xs.take i)) so hon (by omega) xs[i]!) rfl ?_
    rintro e L2 ⟨v23, s23, hv23, rfl, rfl⟩
    obtain ⟨a23, c23, rfl, _⟩ := hv23.form
    refine G.assignS rfl trivial rfl rfl rfl ?_
    refine G.nil ?_
    refine C.region ?_
    refine G.moveI rfl trivial rfl rfl rfl ?_
    refine G.addN (j := 1) rfl trivial rfl rfl rfl rfl (by omega) ?_
    refine G.assignI rfl trivial rfl rfl rfl ?_
    refine G.nil ?_
    exact ⟨xs.length - (i + 1) + 0, by omega, i + 1, a23, c23, s23, rfl, by omega, by rw [take_one hlt]; exact hv23, rfl, rfl, rfl, by rw [take_one hlt]; rfl, rfl, rfl, rfl⟩
  · intro hc0
    rw [List.take_of_length_le (show xs.length ≤ i by omega)] at hon h7 ⊢
    have hal := insAll_length _ xs rfl
    have hll := left_le (insAll xs) es
    refine C.exit ?_
    refine C.seq ?_
    refine C.seq ?_
    refine C.region ?_
    refine G.assignB rfl trivial rfl rfl rfl ?_
    refine G.nil ?_
    refine C.block ?_
    refine C.loop (fun m F D' L' => ∃ (sl : List Int) (ao : Option Addr) (co : Nat) (so : Seg) (more : Bool), m = 2 * left sl es + (if more = true then 1 else 0) + 0 ∧ sl.length + left sl es ≤ xs.length + es.length ∧ OwnS (.slice ao sl.length co) sl.length (sl.map (Value.int .i64)) 2 1 so ∧ (∀ y ∈ sl, Rch (gE es) xs y) ∧ (∀ y ∈ xs, y ∈ sl) ∧ (more = false → ∀ e ∈ es, e.1 ≠ t → e.1 ∈ sl → e.2 ∈ sl) ∧ F 0 = .pointer (some ⟨bw, 2, none⟩) ∧ F 1 = .int .i64 t ∧ F 7 = .slice ao sl.length co ∧ F 9 = .bool more ∧ D' = [] ∧ so :: s1 :: [(bw, .row [x3, y3, .slice av es.length cv] 35 3)] :: L0 = L') ⟨_, ⟨insAll xs, ao, co, so, true, rfl, by omega, hon, fun y hy => .base ((insAll_mem _ xs rfl y).1 hy), fun y hy => (insAll_mem _ xs rfl y).2 hy, fun h => (by cases h), rfl, rfl, rfl, rfl, rfl, rfl⟩⟩ ?_
    rintro m F D' L' ⟨sl0, ao, co, so, more, rfl, hb, hon, hrch, hsub, hclo, h0, h1, h7, h9, rfl, rfl⟩
    refine C.fix (d := 0) h0 ?_
    refine C.fix (d := 1) h1 ?_
    refine C.fix (d := 7) h7 ?_
    refine C.fix (d := 9) h9 ?_
    refine C.seq ?_
    refine C.seq ?_
    refine C.region ?_
    refine G.moveB rfl trivial rfl rfl rfl ?_
    refine G.nil ?_
    refine C.condB _ rfl ?_ ?_
    · intro hc1
      subst hc1
      refine C.skip ?_
      refine C.block ?_
      refine C.seq ?_
      refine C.region ?_
      refine G.assignB rfl trivial rfl rfl rfl ?_
      refine G.nil ?_
      refine C.seq ?_
      refine C.region ?_
      refine G.assignI rfl trivial rfl rfl rfl ?_
      refine G.nil ?_
      refine C.block ?_
      refine C.loop (fun m F D' L' => ∃ (j : Nat) (sl : List Int) (ao : Option Addr) (co : Nat) (so : Seg) (more : Bool), m = es.length - j + 0 ∧ j ≤ es.length ∧ sl.length + left sl es ≤ xs.length + es.length ∧ left sl es ≤ left sl0 es ∧ (more = true → left sl es < left sl0 es) ∧ OwnS (.slice ao sl.length co) sl.length (sl.map (Value.int .i64)) 2 1 so ∧ (∀ y ∈ sl, Rch (gE es) xs y) ∧ (∀ y ∈ xs, y ∈ sl) ∧ (more = false → ∀ e ∈ es.take j, e.1 ≠ t → e.1 ∈ sl → e.2 ∈ sl) ∧ F 0 = .pointer (some ⟨bw, 2, none⟩) ∧ F 1 = .int .i64 t ∧ F 7 = .slice ao sl.length co ∧ F 9 = .bool more ∧ F 10 = .int .i64 (j : Int) ∧ D' = [] ∧ so :: s1 :: [(bw, .row [x3, y3, .slice av es.length cv] 35 3)] :: L0 = L') ⟨_, ⟨0, sl0, ao, co, so, false, rfl, Nat.zero_le _, hb, Nat.le_refl _, fun h => (by cases h), hon, hrch, hsub, fun _ e he => absurd he (by simp), rfl, rfl, rfl, rfl, rfl, rfl, rfl⟩⟩ ?_
      rintro m F D' L' ⟨j, sl, ao, co, so, more, rfl, hj, hb2, hle, hlt2, hon, hrch, hsub, hclo, h0, h1, h7, h9, h10, rfl, rfl⟩
      refine C.fix (d := 0) h0 ?_
      refine C.fix (d := 1) h1 ?_
      refine C.fix (d := 7) h7 ?_
      refine C.fix (d := 9) h9 ?_
      refine C.fix (d := 10) h10 ?_
      refine C.seq ?_
      refine C.seq ?_
      refine C.region ?_
      refine G.moveI rfl trivial rfl rfl rfl ?_
      refine G.moveP rfl trivial rfl rfl rfl ?_
      first | refine G.nilCheckP rfl trivial rfl rfl rfl ?_ | refine G.nilCheckF rfl trivial rfl rfl rfl ?_
      refine G.fieldAddr rfl trivial rfl rfl Try.underlying33 rfl I31 rfl rfl ?_
      refine G.loadAt (by first | exact .here | exact .next .here | exact .next (.next .here) | exact .next (.next (.next .here)) | exact .next (.next (.next (.next .here))) | exact .next (.next (.next (.next (.next .here)))) | exact .next (.next (.next (.next (.next (.next .here))))) | exact .next (.next (.next (.next (.next (.next (.next .here)))))) | exact .in1 | exact .next .in1 | exact .next (.next .in1) | exact .next (.next (.next .in1)) | exact .next (.next (.next (.next .in1))) | exact .in2 | exact .next .in2 | exact .next (.next .in2) | exact .next (.next (.next .in2)) | exact .next (.next (.next (.next .in2))) | exact .app .here | exact .app (.next .here) | exact .app (.next (.next .here)) | exact .app (.next (.next (.next .here))) | exact .app (.next (.next (.next (.next .here)))) | exact .app (.next (.next (.next (.next (.next .here))))) | exact .app (.next (.next (.next (.next (.next (.next .here)))))) | exact .app (.next (.next (.next (.next (.next (.next (.next .here))))))) | exact .app .in1 | exact .app .in2 | exact .app (.next .in1) | exact .next (.app .in1) | exact .next (.next (.app .in1)) | exact .next (.app .here) | exact .next (.next (.app .here)) | exact .next (.next (.next (.app .here))) | exact .next (.next (.next (.next (.app .here))))) rfl trivial rfl rfl Try.underlying31 rfl rfl (by rfl) ?_
      refine G.lenSlice rfl trivial rfl rfl Try.underlying31 rfl ?_
      refine G.bin rfl trivial rfl rfl rfl rfl rfl ?_
      refine G.nil ?_
      refine C.cond _ rfl ?_ ?_
      · intro hc2
        have hlt : j < es.length := by omega
        obtain ⟨bq, cq, kq, hveq, rfl, hq1, hq2⟩ := hv.block (by omega)
        cases hveq
        obtain ⟨af, cf, haf, hrf⟩ := hon.form
        cases haf
        have hmem : es[j] ∈ es := List.getElem_mem hlt
        refine C.skip ?_
        refine C.seq ?_
        refine C.block ?_
        refine C.seq ?_
        refine C.region ?_
        refine G.moveP rfl trivial rfl rfl rfl ?_
        first | refine G.nilCheckP rfl trivial rfl rfl rfl ?_ | refine G.nilCheckF rfl trivial rfl rfl rfl ?_
        refine G.fieldAddr rfl trivial rfl rfl Try.underlying33 rfl I31 rfl rfl ?_
        refine G.loadAt (by first | exact .here | exact .next .here | exact .next (.next .here) | exact .next (.next (.next .here)) | exact .next (.next (.next (.next .here))) | exact .next (.next (.next (.next (.next .here)))) | exact .next (.next (.next (.next (.next (.next .here))))) | exact .next (.next (.next (.next (.next (.next (.next .here)))))) | exact .in1 | exact .next .in1 | exact .next (.next .in1) | exact .next (.next (.next .in1)) | exact .next (.next (.next (.next .in1))) | exact .in2 | exact .next .in2 | exact .next (.next .in2) | exact .next (.next (.next .in2)) | exact .next (.next (.next (.next .in2))) | exact .app .here | exact .app (.next .here) | exact .app (.next (.next .here)) | exact .app (.next (.next (.next .here))) | exact .app (.next (.next (.next (.next .here)))) | exact .app (.next (.next (.next (.next (.next .here))))) | exact .app (.next (.next (.next (.next (.next (.next .here)))))) | exact .app (.next (.next (.next (.next (.next (.next (.next .here))))))) | exact .app .in1 | exact .app .in2 | exact .app (.next .in1) | exact .next (.app .in1) | exact .next (.next (.app .in1)) | exact .next (.app .here) | exact .next (.next (.app .here)) | exact .next (.next (.next (.app .here))) | exact .next (.next (.next (.next (.app .here))))) rfl trivial rfl rfl Try.underlying31 rfl rfl (by rfl) ?_
        refine G.moveI rfl trivial rfl rfl rfl ?_
        refine G.indexAddr rfl trivial rfl rfl Try.underlying31 I86 rfl rfl (by omega) ?_
        refine G.loadAgg (edC es[j]) rfl trivial rfl rfl Try.underlying86 rfl I86 rfl rfl (fun w hm => agg_of_row hm (.next .here) (by have h := row_chunk (rs := []) (f := edC) (k := 2) (fun _ _ => rfl) hlt; rw [List.append_nil] at h; exact h)) ?_
        refine G.allocC (cs := [(.int .i64 0), (.int .i64 0)]) rfl trivial rfl rfl I86 rfl ?_
        intro b11
        refine G.stRow .here rfl trivial rfl I86 rfl rfl rfl (by rfl) (edC_ok _) ?_
        refine G.nil ?_
        refine C.seq ?_
        refine C.region ?_
        refine G.fieldAddr rfl trivial rfl rfl Try.underlying86 rfl I2 rfl rfl ?_
        refine G.loadAt (by first | exact .here | exact .next .here | exact .next (.next .here) | exact .next (.next (.next .here)) | exact .next (.next (.next (.next .here))) | exact .next (.next (.next (.next (.next .here)))) | exact .next (.next (.next (.next (.next (.next .here))))) | exact .next (.next (.next (.next (.next (.next (.next .here)))))) | exact .in1 | exact .next .in1 | exact .next (.next .in1) | exact .next (.next (.next .in1)) | exact .next (.next (.next (.next .in1))) | exact .in2 | exact .next .in2 | exact .next (.next .in2) | exact .next (.next (.next .in2)) | exact .next (.next (.next (.next .in2))) | exact .app .here | exact .app (.next .here) | exact .app (.next (.next .here)) | exact .app (.next (.next (.next .here))) | exact .app (.next (.next (.next (.next .here)))) | exact .app (.next (.next (.next (.next (.next .here))))) | exact .app (.next (.next (.next (.next (.next (.next .here)))))) | exact .app (.next (.next (.next (.next (.next (.next (.next .here))))))) | exact .app .in1 | exact .app .in2 | exact .app (.next .in1) | exact .next (.app .in1) | exact .next (.next (.app .in1)) | exact .next (.app .here) | exact .next (.next (.app .here)) | exact .next (.next (.next (.app .here))) | exact .next (.next (.next (.next (.app .here))))) rfl trivial rfl rfl Try.underlying2 rfl rfl (by rfl) ?_
        refine G.moveI rfl trivial rfl rfl rfl ?_
        refine G.bin rfl trivial rfl rfl rfl rfl rfl ?_
        refine G.moveB rfl trivial rfl rfl rfl ?_
        refine G.fork (t := 45) _ rfl ?_ ?_
        · intro hg45
          refine G.moveS rfl ⟨_, rfl, rfl, rfl⟩ rfl rfl rfl ?_
          refine G.fieldAddr rfl ⟨_, rfl, rfl, rfl⟩ rfl rfl Try.underlying86 rfl I2 rfl rfl ?_
          refine G.loadAt (by first | exact .here | exact .next .here | exact .next (.next .here) | exact .next (.next (.next .here)) | exact .next (.next (.next (.next .here))) | exact .next (.next (.next (.next (.next .here)))) | exact .next (.next (.next (.next (.next (.next .here))))) | exact .next (.next (.next (.next (.next (.next (.next .here)))))) | exact .in1 | exact .next .in1 | exact .next (.next .in1) | exact .next (.next (.next .in1)) | exact .next (.next (.next (.next .in1))) | exact .in2 | exact .next .in2 | exact .next (.next .in2) | exact .next (.next (.next .in2)) | exact .next (.next (.next (.next .in2))) | exact .app .here | exact .app (.next .here) | exact .app (.next (.next .here)) | exact .app (.next (.next (.next .here))) | exact .app (.next (.next (.next (.next .here)))) | exact .app (.next (.next (.next (.next (.next .here))))) | exact .app (.next (.next (.next (.next (.next (.next .here)))))) | exact .app (.next (.next (.next (.next (.next (.next (.next .here))))))) | exact .app .in1 | exact .app .in2 | exact .app (.next .in1) | exact .next (.app .in1) | exact .next (.next (.app .in1)) | exact .next (.app .here) | exact .next (.next (.app .here)) | exact .next (.next (.next (.app .here))) | exact .next (.next (.next (.next (.app .here))))) rfl ⟨_, rfl, rfl, rfl⟩ rfl rfl Try.underlying2 rfl rfl (by rfl) ?_
          refine G.call E24 rfl rfl ⟨_, rfl, rfl, rfl⟩ rfl rfl (in_spec W0 _ ao co sl (hrf W0 _).cons (by omega) es[j].1) rfl ?_
          rintro e L2 ⟨rfl, rfl⟩
          first | refine G.pickT rfl trivial rfl rfl rfl rfl ?_ | refine G.pickF rfl trivial rfl rfl rfl rfl ?_
          refine G.moveB rfl trivial rfl rfl rfl ?_
          refine G.fork (t := 51) _ rfl ?_ ?_
          · intro hg51
            refine G.moveS rfl ⟨_, rfl, rfl, rfl⟩ rfl rfl rfl ?_
            refine G.fieldAddr rfl ⟨_, rfl, rfl, rfl⟩ rfl rfl Try.underlying86 rfl I2 rfl rfl ?_
            refine G.loadAt (by first | exact .here | exact .next .here | exact .next (.next .here) | exact .next (.next (.next .here)) | exact .next (.next (.next (.next .here))) | exact .next (.next (.next (.next (.next .here)))) | exact .next (.next (.next (.next (.next (.next .here))))) | exact .next (.next (.next (.next (.next (.next (.next .here)))))) | exact .in1 | exact .next .in1 | exact .next (.next .in1) | exact .next (.next (.next .in1)) | exact .next (.next (.next (.next .in1))) | exact .in2 | exact .next .in2 | exact .next (.next .in2) | exact .next (.next (.next .in2)) | exact .next (.next (.next (.next .in2))) | exact .app .here | exact .app (.next .here) | exact .app (.next (.next .here)) | exact .app (.next (.next (.next .here))) | exact .app (.next (.next (.next (.next .here)))) | exact .app (.next (.next (.next (.next (.next .here))))) | exact .app (.next (.next (.next (.next (.next (.next .here)))))) | exact .app (.next (.next (.next (.next (.next (.next (.next .here))))))) | exact .app .in1 | exact .app .in2 | exact .app (.next .in1) | exact .next (.app .in1) | exact .next (.next (.app .in1)) | exact .next (.app .here) | exact .next (.next (.app .here)) | exact .next (.next (.next (.app .here))) | exact .next (.next (.next (.next (.app .here))))) rfl ⟨_, rfl, rfl, rfl⟩ rfl rfl Try.underlying2 rfl rfl (by rfl) ?_
            refine G.call E24 rfl rfl ⟨_, rfl, rfl, rfl⟩ rfl rfl (in_spec W0 _ ao co sl (hrf W0 _).cons (by omega) es[j].2) rfl ?_
            rintro e L2 ⟨rfl, rfl⟩
            first | refine G.notD rfl ⟨_, rfl, rfl, rfl⟩ rfl rfl rfl ?_ | refine G.not rfl ⟨_, rfl, rfl, rfl⟩ rfl rfl rfl ?_
            first | refine G.pickT rfl trivial rfl rfl rfl rfl ?_ | refine G.pickF rfl trivial rfl rfl rfl rfl ?_
            refine G.nil ?_
            refine C.cond _ rfl ?_ ?_
            · intro hc3
              refine C.seq ?_
              refine C.region ?_
              refine G.moveS rfl trivial rfl rfl rfl ?_
              refine G.fieldAddr rfl trivial rfl rfl Try.underlying86 rfl I2 rfl rfl ?_
              refine G.loadAt (by first | exact .here | exact .next .here | exact .next (.next .here) | exact .next (.next (.next .here)) | exact .next (.next (.next (.next .here))) | exact .next (.next (.next (.next (.next .here)))) | exact .next (.next (.next (.next (.next (.next .here))))) | exact .next (.next (.next (.next (.next (.next (.next .here)))))) | exact .in1 | exact .next .in1 | exact .next (.next .in1) | exact .next (.next (.next .in1)) | exact .next (.next (.next (.next .in1))) | exact .in2 | exact .next .in2 | exact .next (.next .in2) | exact .next (.next (.next .in2)) | exact .next (.next (.next (.next .in2))) | exact .app .here | exact .app (.next .here) | exact .app (.next (.next .here)) | exact .app (.next (.next (.next .here))) | exact .app (.next (.next (.next (.next .here)))) | exact .app (.next (.next (.next (.next (.next .here))))) | exact .app (.next (.next (.next (.next (.next (.next .here)))))) | exact .app (.next (.next (.next (.next (.next (.next (.next .here))))))) | exact .app .in1 | exact .app .in2 | exact .app (.next .in1) | exact .next (.app .in1) | exact .next (.next (.app .in1)) | exact .next (.app .here) | exact .next (.next (.app .here)) | exact .next (.next (.next (.app .here))) | exact .next (.next (.next (.next (.app .here))))) rfl trivial rfl rfl Try.underlying2 rfl rfl (by rfl) ?_
              refine G.call E25 rfl rfl trivial rfl rfl (FnS.perm (insert_spec W0 _ _ sl so hon (by omega) es[j].2) P2) rfl ?_
              rintro e L2 ⟨v61, s61, hv61, rfl, rfl⟩
              obtain ⟨a61, c61, rfl, _⟩ := hv61.form
              refine G.assignS rfl trivial rfl rfl rfl ?_
              refine G.nil ?_
              refine C.region ?_
              refine G.assignB rfl trivial rfl rfl rfl ?_
              refine G.nil ?_
              refine C.region ?_
              refine G.moveI rfl trivial rfl rfl rfl ?_
              refine G.addN (j := 1) rfl trivial rfl rfl rfl rfl (by omega) ?_
              refine G.assignI rfl trivial rfl rfl rfl ?_
              refine G.less (fun _ h => h.skip1) ?_
              refine G.nil ?_
              have hli := left_ins hmem hc3
              have hil := insL_length sl es[j].2
              exact ⟨es.length - (j + 1) + 0, by omega, j + 1, insL sl es[j].2, a61, c61, s61, true, rfl, by omega, by omega, by omega, fun _ => by omega, hv61, fun y hy => by rcases (insL_mem _ _ _).1 hy with rfl | hy; exact .step (hrch _ hg51) (gE_mem.2 hmem); exact hrch y hy, fun y hy => (insL_mem _ _ _).2 (.inr (hsub y hy)), fun h => (by cases h), rfl, rfl, rfl, rfl, rfl, rfl, rfl⟩
            · intro hc3
              refine C.skip ?_
              refine C.region ?_
              refine G.moveI rfl trivial rfl rfl rfl ?_
              refine G.addN (j := 1) rfl trivial rfl rfl rfl rfl (by omega) ?_
              refine G.assignI rfl trivial rfl rfl rfl ?_
              refine G.less (fun _ h => h.tail) ?_
              refine G.nil ?_
              exact ⟨es.length - (j + 1) + 0, by omega, j + 1, sl, ao, co, so, more, rfl, by omega, hb2, hle, hlt2, hon, hrch, hsub, fun hm e he h1 h2 => by rw [List.take_succ_eq_append_getElem hlt] at he; rcases List.mem_append.1 he with he | he; exact hclo hm e he h1 h2; rw [List.mem_singleton.1 he] at h1 h2 ⊢; first | exact absurd (Classical.not_not.1 hg45) h1 | exact absurd h2 hg51 | exact Classical.not_not.1 hc3, rfl, rfl, rfl, rfl, rfl, rfl, rfl⟩
          · intro hg51
            refine G.skip rfl rfl rfl rfl rfl rfl ?_
            refine G.skip rfl rfl rfl rfl rfl rfl ?_
            refine G.skip rfl rfl rfl rfl rfl rfl ?_
            refine G.skip rfl rfl rfl rfl rfl rfl ?_
            refine G.skip rfl rfl rfl rfl rfl rfl ?_
            first | refine G.pickT rfl trivial rfl rfl rfl rfl ?_ | refine G.pickF rfl trivial rfl rfl rfl rfl ?_
            refine G.nil ?_
            refine C.condF rfl ?_
            refine C.skip ?_
            refine C.region ?_
            refine G.moveI rfl trivial rfl rfl rfl ?_
            refine G.addN (j := 1) rfl trivial rfl rfl rfl rfl (by omega) ?_
            refine G.assignI rfl trivial rfl rfl rfl ?_
            refine G.less (fun _ h => h.tail) ?_
            refine G.nil ?_
            exact ⟨es.length - (j + 1) + 0, by omega, j + 1, sl, ao, co, so, more, rfl, by omega, hb2, hle, hlt2, hon, hrch, hsub, fun hm e he h1 h2 => by rw [List.take_succ_eq_append_getElem hlt] at he; rcases List.mem_append.1 he with he | he; exact hclo hm e he h1 h2; rw [List.mem_singleton.1 he] at h1 h2 ⊢; first | exact absurd (Classical.not_not.1 hg45) h1 | exact absurd h2 hg51 | exact Classical.not_not.1 hc3, rfl, rfl, rfl, rfl, rfl, rfl, rfl⟩
        · intro hg45
          refine G.skip rfl rfl rfl rfl rfl rfl ?_
          refine G.skip rfl rfl rfl rfl rfl rfl ?_
          refine G.skip rfl rfl rfl rfl rfl rfl ?_
          refine G.skip rfl rfl rfl rfl rfl rfl ?_
          first | refine G.pickT rfl trivial rfl rfl rfl rfl ?_ | refine G.pickF rfl trivial rfl rfl rfl rfl ?_
          refine G.moveB rfl trivial rfl rfl rfl ?_
          refine G.skip rfl rfl rfl rfl rfl rfl ?_
          refine G.skip rfl rfl rfl rfl rfl rfl ?_
          refine G.skip rfl rfl rfl rfl rfl rfl ?_
          refine G.skip rfl rfl rfl rfl rfl rfl ?_
          refine G.skip rfl rfl rfl rfl rfl rfl ?_
          first | refine G.pickT rfl trivial rfl rfl rfl rfl ?_ | refine G.pickF rfl trivial rfl rfl rfl rfl ?_
          refine G.nil ?_
          refine C.condF rfl ?_
          refine C.skip ?_
          refine C.region ?_
          refine G.moveI rfl trivial rfl rfl rfl ?_
          refine G.addN (j := 1) rfl trivial rfl rfl rfl rfl (by omega) ?_
          refine G.assignI rfl trivial rfl rfl rfl ?_
          refine G.less (fun _ h => h.tail) ?_
          refine G.nil ?_
          exact ⟨es.length - (j + 1) + 0, by omega, j + 1, sl, ao, co, so, more, rfl, by omega, hb2, hle, hlt2, hon, hrch, hsub, fun hm e he h1 h2 => by rw [List.take_succ_eq_append_getElem hlt] at he; rcases List.mem_append.1 he with he | he; exact hclo hm e he h1 h2; rw [List.mem_singleton.1 he] at h1 h2 ⊢; first | exact absurd (Classical.not_not.1 hg45) h1 | exact absurd h2 hg51 | exact Classical.not_not.1 hc3, rfl, rfl, rfl, rfl, rfl, rfl, rfl⟩
      · intro hc2
        refine C.exit ?_
        exact ⟨2 * left sl es + (if more = true then 1 else 0) + 0, by cases more; simp; omega; have := hlt2 rfl; simp; omega, sl, ao, co, so, more, rfl, hb2, hon, hrch, hsub, by rwa [List.take_of_length_le (by omega)] at hclo, rfl, rfl, rfl, rfl, rfl, rfl⟩
    · intro hc1
      subst hc1
      refine C.exit ?_
      refine C.seq ?_
      refine C.region ?_
      refine G.moveS rfl trivial rfl rfl rfl ?_
      refine G.moveI rfl trivial rfl rfl rfl ?_
      refine G.call E24 rfl rfl trivial rfl rfl (in_spec W0 _ ao co sl0 (by obtain ⟨af, cf, haf, hrf⟩ := hon.form; cases haf; exact hrf W0 _) (by omega) t) rfl ?_
      rintro e L2 ⟨rfl, rfl⟩
      refine G.assignB rfl trivial rfl rfl rfl ?_
      refine G.nil ?_
      refine C.less (fun _ h => h.tail) ?_
      refine C.ret ?_
      -- end c0Fc1F
      exact ⟨rfl, _, Res.of (rs := [.tmp 6]) rfl rfl, rfl, _, ⟨fun h => hrch _ (of_decide_eq_true h), fun h => decide_eq_true (Classical.byContradiction fun hn => hn (h.closed hsub fun x hx y hy => hclo rfl (x, y) (gE_mem.1 hy) (fun e => hn (by rw [← e]; exact hx)) hx))⟩, rfl⟩
theorem rclearK (es : List Edge) (s1 s2 : Seg) (h : RwK bw x3 y3 es s1 s2) (hl : es.length ≤ 900000) (t : Int) :
    FnS Try.prog W0 35 #[.pointer (some ⟨bw, 2, none⟩), .int .i64 t] (s1 :: s2 :: L0) (fun e L' => ∃ s1' s2', RwK bw x3 y3 (noneOf t es) s1' s2' ∧ L' = s1' :: s2' :: L0 ∧ e = .returned (.tuple #[])) := by
  refine FnS.drop (R := fun e L' => ∃ i1 s1' s2', RwK bw x3 y3 (noneOf t es) s1' s2' ∧ L' = s1' :: i1 :: s2' :: L0 ∧ e = .returned (.tuple #[])) ?_ (fun e L' ⟨i1, s1', s2', h1, h2, h3⟩ => ⟨s1' :: s2' :: L0, fun w h => by subst h2; exact h.skip1, s1', s2', h1, rfl, h3⟩)
  obtain ⟨v, hv, rfl⟩ := h
  obtain ⟨av, cv, rfl, _⟩ := hv.form
  refine FnS.of (args := [.pointer (some ⟨bw, 2, none⟩), .int .i64 t]) Try.func35 rfl rfl ?_
  refine C.seq ?_
  refine C.region ?_
  refine G.assignS rfl trivial rfl rfl rfl ?_
  refine G.nil ?_
  refine C.seq ?_
  refine C.seq ?_
  refine C.region ?_
  refine G.assignI rfl trivial rfl rfl rfl ?_
  refine G.less (fun _ h => h.empty) ?_
  refine G.nil ?_
  refine C.block ?_
  refine C.loop (fun m F D' L' => ∃ (i : Nat) (ao : Option Addr) (co : Nat) (so : Seg), m = es.length - i + 0 ∧ i ≤ es.length ∧ OwnS (.slice ao (noneOf t (es.take i)).length co) (noneOf t (es.take i)).length ((noneOf t (es.take i)).flatMap edC) 86 2 so ∧ F 0 = .pointer (some ⟨bw, 2, none⟩) ∧ F 1 = .int .i64 t ∧ F 4 = .slice ao (noneOf t (es.take i)).length co ∧ F 5 = .int .i64 (i : Int) ∧ D' = [] ∧ so :: s1 :: [(bw, .row [x3, y3, .slice av es.length cv] 35 3)] :: L0 = L') ⟨_, ⟨0, none, 0, [], rfl, Nat.zero_le _, OwnS.nil _ _, rfl, rfl, rfl, rfl, rfl, rfl⟩⟩ ?_
  rintro m F D' L' ⟨i, ao, co, so, rfl, hi, hon, h0, h1, h4, h5, rfl, rfl⟩
  refine C.fix (d := 0) h0 ?_
  refine C.fix (d := 1) h1 ?_
  refine C.fix (d := 4) h4 ?_
  refine C.fix (d := 5) h5 ?_
  refine C.seq ?_
  refine C.seq ?_
  refine C.region ?_
  refine G.moveI rfl trivial rfl rfl rfl ?_
  refine G.moveP rfl trivial rfl rfl rfl ?_
  first | refine G.nilCheckP rfl trivial rfl rfl rfl ?_ | refine G.nilCheckF rfl trivial rfl rfl rfl ?_
  refine G.fieldAddr rfl trivial rfl rfl Try.underlying33 rfl I31 rfl rfl ?_
  refine G.loadAt (by first | exact .here | exact .next .here | exact .next (.next .here) | exact .next (.next (.next .here)) | exact .next (.next (.next (.next .here))) | exact .next (.next (.next (.next (.next .here)))) | exact .next (.next (.next (.next (.next (.next .here))))) | exact .next (.next (.next (.next (.next (.next (.next .here)))))) | exact .in1 | exact .next .in1 | exact .next (.next .in1) | exact .next (.next (.next .in1)) | exact .next (.next (.next (.next .in1))) | exact .in2 | exact .next .in2 | exact .next (.next .in2) | exact .next (.next (.next .in2)) | exact .next (.next (.next (.next .in2))) | exact .app .here | exact .app (.next .here) | exact .app (.next (.next .here)) | exact .app (.next (.next (.next .here))) | exact .app (.next (.next (.next (.next .here)))) | exact .app (.next (.next (.next (.next (.next .here))))) | exact .app (.next (.next (.next (.next (.next (.next .here)))))) | exact .app (.next (.next (.next (.next (.next (.next (.next .here))))))) | exact .app .in1 | exact .app .in2 | exact .app (.next .in1) | exact .next (.app .in1) | exact .next (.next (.app .in1)) | exact .next (.app .here) | exact .next (.next (.app .here)) | exact .next (.next (.next (.app .here))) | exact .next (.next (.next (.next (.app .here))))) rfl trivial rfl rfl Try.underlying31 rfl rfl (by rfl) ?_
  refine G.lenSlice rfl trivial rfl rfl Try.underlying31 rfl ?_
  refine G.bin rfl trivial rfl rfl rfl rfl rfl ?_
  refine G.nil ?_
  refine C.cond _ rfl ?_ ?_
  · intro hc0
    have hlt : i < es.length := by omega
    obtain ⟨bq, cq, kq, hveq, rfl, hq1, hq2⟩ := hv.block (by omega)
    cases hveq
    obtain ⟨o1, o2⟩ := ed_at hlt
    have hsn := noneOf_take (t := t) hlt
    have hol := noneOf_le t (es.take i)
    rw [List.length_take] at hol
    refine C.skip ?_
    refine C.seq ?_
    refine C.block ?_
    refine C.seq ?_
    refine C.region ?_
    refine G.moveP rfl trivial rfl rfl rfl ?_
    first | refine G.nilCheckP rfl trivial rfl rfl rfl ?_ | refine G.nilCheckF rfl trivial rfl rfl rfl ?_
    refine G.fieldAddr rfl trivial rfl rfl Try.underlying33 rfl I31 rfl rfl ?_
    refine G.loadAt (by first | exact .here | exact .next .here | exact .next (.next .here) | exact .next (.next (.next .here)) | exact .next (.next (.next (.next .here))) | exact .next (.next (.next (.next (.next .here)))) | exact .next (.next (.next (.next (.next (.next .here))))) | exact .next (.next (.next (.next (.next (.next (.next .here)))))) | exact .in1 | exact .next .in1 | exact .next (.next .in1) | exact .next (.next (.next .in1)) | exact .next (.next (.next (.next .in1))) | exact .in2 | exact .next .in2 | exact .next (.next .in2) | exact .next (.next (.next .in2)) | exact .next (.next (.next (.next .in2))) | exact .app .here | exact .app (.next .here) | exact .app (.next (.next .here)) | exact .app (.next (.next (.next .here))) | exact .app (.next (.next (.next (.next .here)))) | exact .app (.next (.next (.next (.next (.next .here))))) | exact .app (.next (.next (.next (.next (.next (.next .here)))))) | exact .app (.next (.next (.next (.next (.next (.next (.next .here))))))) | exact .app .in1 | exact .app .in2 | exact .app (.next .in1) | exact .next (.app .in1) | exact .next (.next (.app .in1)) | exact .next (.app .here) | exact .next (.next (.app .here)) | exact .next (.next (.next (.app .here))) | exact .next (.next (.next (.next (.app .here))))) rfl trivial rfl rfl Try.underlying31 rfl rfl (by rfl) ?_
    refine G.moveI rfl trivial rfl rfl rfl ?_
    refine G.indexAddr rfl trivial rfl rfl Try.underlying31 I86 rfl rfl (by omega) ?_
    refine G.fieldAddr rfl trivial rfl rfl Try.underlying86 rfl I2 rfl rfl ?_
    refine G.loadAt (.next .here) rfl trivial rfl rfl Try.underlying2 rfl rfl o1 ?_
    refine G.moveI rfl trivial rfl rfl rfl ?_
    refine G.bin rfl trivial rfl rfl rfl rfl rfl ?_
    refine G.moveB rfl trivial rfl rfl rfl ?_
    refine G.fork (t := 25) _ rfl ?_ ?_
    · intro hg25
      refine G.moveP rfl ⟨_, rfl, rfl, rfl⟩ rfl rfl rfl ?_
      first | refine G.nilCheckP rfl ⟨_, rfl, rfl, rfl⟩ rfl rfl rfl ?_ | refine G.nilCheckF rfl ⟨_, rfl, rfl, rfl⟩ rfl rfl rfl ?_
      refine G.fieldAddr rfl ⟨_, rfl, rfl, rfl⟩ rfl rfl Try.underlying33 rfl I31 rfl rfl ?_
      refine G.loadAt (by first | exact .here | exact .next .here | exact .next (.next .here) | exact .next (.next (.next .here)) | exact .next (.next (.next (.next .here))) | exact .next (.next (.next (.next (.next .here)))) | exact .next (.next (.next (.next (.next (.next .here))))) | exact .next (.next (.next (.next (.next (.next (.next .here)))))) | exact .in1 | exact .next .in1 | exact .next (.next .in1) | exact .next (.next (.next .in1)) | exact .next (.next (.next (.next .in1))) | exact .in2 | exact .next .in2 | exact .next (.next .in2) | exact .next (.next (.next .in2)) | exact .next (.next (.next (.next .in2))) | exact .app .here | exact .app (.next .here) | exact .app (.next (.next .here)) | exact .app (.next (.next (.next .here))) | exact .app (.next (.next (.next (.next .here)))) | exact .app (.next (.next (.next (.next (.next .here))))) | exact .app (.next (.next (.next (.next (.next (.next .here)))))) | exact .app (.next (.next (.next (.next (.next (.next (.next .here))))))) | exact .app .in1 | exact .app .in2 | exact .app (.next .in1) | exact .next (.app .in1) | exact .next (.next (.app .in1)) | exact .next (.app .here) | exact .next (.next (.app .here)) | exact .next (.next (.next (.app .here))) | exact .next (.next (.next (.next (.app .here))))) rfl ⟨_, rfl, rfl, rfl⟩ rfl rfl Try.underlying31 rfl rfl (by rfl) ?_
      refine G.moveI rfl ⟨_, rfl, rfl, rfl⟩ rfl rfl rfl ?_
      refine G.indexAddr rfl ⟨_, rfl, rfl, rfl⟩ rfl rfl Try.underlying31 I86 rfl rfl (by omega) ?_
      refine G.fieldAddr rfl ⟨_, rfl, rfl, rfl⟩ rfl rfl Try.underlying86 rfl I2 rfl rfl ?_
      refine G.loadAt (.next .here) rfl ⟨_, rfl, rfl, rfl⟩ rfl rfl Try.underlying2 rfl rfl o2 ?_
      refine G.moveI rfl ⟨_, rfl, rfl, rfl⟩ rfl rfl rfl ?_
      refine G.bin rfl ⟨_, rfl, rfl, rfl⟩ rfl rfl rfl rfl rfl ?_
      first | refine G.pickT rfl trivial rfl rfl rfl rfl ?_ | refine G.pickF rfl trivial rfl rfl rfl rfl ?_
      refine G.nil ?_
      refine C.cond _ rfl ?_ ?_
      · intro hc1
        refine C.region ?_
        refine G.moveS rfl trivial rfl rfl rfl ?_
        refine G.moveP rfl trivial rfl rfl rfl ?_
        first | refine G.nilCheckP rfl trivial rfl rfl rfl ?_ | refine G.nilCheckF rfl trivial rfl rfl rfl ?_
        refine G.fieldAddr rfl trivial rfl rfl Try.underlying33 rfl I31 rfl rfl ?_
        refine G.loadAt (by first | exact .here | exact .next .here | exact .next (.next .here) | exact .next (.next (.next .here)) | exact .next (.next (.next (.next .here))) | exact .next (.next (.next (.next (.next .here)))) | exact .next (.next (.next (.next (.next (.next .here))))) | exact .next (.next (.next (.next (.next (.next (.next .here)))))) | exact .in1 | exact .next .in1 | exact .next (.next .in1) | exact .next (.next (.next .in1)) | exact .next (.next (.next (.next .in1))) | exact .in2 | exact .next .in2 | exact .next (.next .in2) | exact .next (.next (.next .in2)) | exact .next (.next (.next (.next .in2))) | exact .app .here | exact .app (.next .here) | exact .app (.next (.next .here)) | exact .app (.next (.next (.next .here))) | exact .app (.next (.next (.next (.next .here)))) | exact .app (.next (.next (.next (.next (.next .here))))) | exact .app (.next (.next (.next (.next (.next (.next .here)))))) | exact .app (.next (.next (.next (.next (.next (.next (.next .here))))))) | exact .app .in1 | exact .app .in2 | exact .app (.next .in1) | exact .next (.app .in1) | exact .next (.next (.app .in1)) | exact .next (.app .here) | exact .next (.next (.app .here)) | exact .next (.next (.next (.app .here))) | exact .next (.next (.next (.next (.app .here))))) rfl trivial rfl rfl Try.underlying31 rfl rfl (by rfl) ?_
        refine G.moveI rfl trivial rfl rfl rfl ?_
        refine G.indexAddr rfl trivial rfl rfl Try.underlying31 I86 rfl rfl (by omega) ?_
        refine G.loadAgg (edC es[i]) rfl trivial rfl rfl Try.underlying86 rfl I86 rfl rfl (fun w hm => agg_of_row hm (.next .here) (by have h := row_chunk (rs := []) (f := edC) (k := 2) (fun _ _ => rfl) hlt; rw [List.append_nil] at h; exact h)) ?_
        refine G.buildSliceL (cs := edC es[i]) (zs := [(.int .i64 0), (.int .i64 0)]) rfl trivial rfl rfl Try.underlying31 I86 rfl (by kernel_rfl) rfl rfl ?_
        intro b45
        refine G.less (fun _ h => h.perm2) ?_
        refine G.append hon rfl trivial rfl rfl Try.underlying31 Try.underlying31 I86 rfl (by decide) rfl rfl (by decide) (Rd.row0 (.next .here)) rfl (edC_ok _) (by omega) ?_
        intro v46 s46 hv46
        obtain ⟨a46, c46, rfl, _⟩ := hv46.form
        refine G.assignS rfl trivial rfl rfl rfl ?_
        refine G.nil ?_
        refine C.region ?_
        refine G.moveI rfl trivial rfl rfl rfl ?_
        refine G.addN (j := 1) rfl trivial rfl rfl rfl rfl (by omega) ?_
        refine G.assignI rfl trivial rfl rfl rfl ?_
        refine G.less (fun _ h => h.skip1) ?_
        refine G.nil ?_
        have e1 : noneOf t (es.take (i + 1)) = noneOf t (es.take i) ++ [es[i]] := by rw [hsn, if_pos ⟨hg25, hc1⟩]
        exact ⟨es.length - (i + 1) + 0, by omega, i + 1, a46, c46, s46, rfl, by omega, by rw [e1, List.length_append, List.flatMap_append]; simpa using hv46, rfl, rfl, by rw [e1, List.length_append]; rfl, rfl, rfl, rfl⟩
      · intro hc1
        refine C.skip ?_
        refine C.region ?_
        refine G.moveI rfl trivial rfl rfl rfl ?_
        refine G.addN (j := 1) rfl trivial rfl rfl rfl rfl (by omega) ?_
        refine G.assignI rfl trivial rfl rfl rfl ?_
        refine G.nil ?_
        have e1 : noneOf t (es.take (i + 1)) = noneOf t (es.take i) := by rw [hsn, if_neg (by first | exact fun h => hg25 h.1 | exact fun h => hc1 h.2)]
        exact ⟨es.length - (i + 1) + 0, by omega, i + 1, ao, co, so, rfl, by omega, by rw [e1]; exact hon, rfl, rfl, by rw [e1]; rfl, rfl, rfl, rfl⟩
    · intro hg25
      refine G.skip rfl rfl rfl rfl rfl rfl ?_
      refine G.skip rfl rfl rfl rfl rfl rfl ?_
      refine G.skip rfl rfl rfl rfl rfl rfl ?_
      refine G.skip rfl rfl rfl rfl rfl rfl ?_
      refine G.skip rfl rfl rfl rfl rfl rfl ?_
      refine G.skip rfl rfl rfl rfl rfl rfl ?_
      refine G.skip rfl rfl rfl rfl rfl rfl ?_
      refine G.skip rfl rfl rfl rfl rfl rfl ?_
      refine G.skip rfl rfl rfl rfl rfl rfl ?_
      refine G.skip rfl rfl rfl rfl rfl rfl ?_
      first | refine G.pickT rfl trivial rfl rfl rfl rfl ?_ | refine G.pickF rfl trivial rfl rfl rfl rfl ?_
      refine G.nil ?_
      refine C.condF rfl ?_
      refine C.skip ?_
      refine C.region ?_
      refine G.moveI rfl trivial rfl rfl rfl ?_
      refine G.addN (j := 1) rfl trivial rfl rfl rfl rfl (by omega) ?_
      refine G.assignI rfl trivial rfl rfl rfl ?_
      refine G.nil ?_
      have e1 : noneOf t (es.take (i + 1)) = noneOf t (es.take i) := by rw [hsn, if_neg (by first | exact fun h => hg25 h.1 | exact fun h => hc1 h.2)]
      exact ⟨es.length - (i + 1) + 0, by omega, i + 1, ao, co, so, rfl, by omega, by rw [e1]; exact hon, rfl, rfl, by rw [e1]; rfl, rfl, rfl, rfl⟩
  · intro hc0
    rw [List.take_of_length_le (show es.length ≤ i by omega)] at hon h4 ⊢
    refine C.exit ?_
    refine C.region ?_
    refine G.moveP rfl trivial rfl rfl rfl ?_
    refine G.moveS rfl trivial rfl rfl rfl ?_
    first | refine G.nilCheckP rfl trivial rfl rfl rfl ?_ | refine G.nilCheckF rfl trivial rfl rfl rfl ?_
    refine G.fieldAddr rfl trivial rfl rfl Try.underlying33 rfl I31 rfl rfl ?_
    refine G.store (v := .slice _ _ _) (by first | exact .here | exact .next .here | exact .next (.next .here) | exact .next (.next (.next .here)) | exact .next (.next (.next (.next .here))) | exact .next (.next (.next (.next (.next .here)))) | exact .next (.next (.next (.next (.next (.next .here))))) | exact .next (.next (.next (.next (.next (.next (.next .here)))))) | exact .in1 | exact .next .in1 | exact .next (.next .in1) | exact .next (.next (.next .in1)) | exact .next (.next (.next (.next .in1))) | exact .in2 | exact .next .in2 | exact .next (.next .in2) | exact .next (.next (.next .in2)) | exact .next (.next (.next (.next .in2))) | exact .app .here | exact .app (.next .here) | exact .app (.next (.next .here)) | exact .app (.next (.next (.next .here))) | exact .app (.next (.next (.next (.next .here)))) | exact .app (.next (.next (.next (.next (.next .here))))) | exact .app (.next (.next (.next (.next (.next (.next .here)))))) | exact .app (.next (.next (.next (.next (.next (.next (.next .here))))))) | exact .app .in1 | exact .app .in2 | exact .app (.next .in1) | exact .next (.app .in1) | exact .next (.next (.app .in1)) | exact .next (.app .here) | exact .next (.next (.app .here)) | exact .next (.next (.next (.app .here))) | exact .next (.next (.next (.next (.app .here))))) rfl trivial rfl I31 rfl rfl rfl (by first | decide | (simp; done) | (simp; omega)) _ (by first | (simp only [List.set_cons_succ, List.set_cons_zero]; done) | (simp only [List.set_cons_succ, List.set_cons_zero]; exact rfl) | exact rfl) ?_
    refine G.nil ?_
    -- end c0F
    exact ⟨rfl, _, Res.of (rs := []) rfl rfl, _, _, _, ⟨_, hon, rfl⟩, rfl, rfl⟩
theorem rsetK (es : List Edge) (s1 s2 : Seg) (h : RwK bw x3 y3 es s1 s2) (hl : es.length ≤ 800000) (t : Int) (a : Option Addr) (c : Nat) (xs : List Int) (hxs : xs.length ≤ 1000) (hr : Rd W0 (s1 :: s2 :: L0) a (xs.map (Value.int .i64))) (hr0 : ∀ s1 s2, Rd W0 (s1 :: s2 :: L0) a (xs.map (Value.int .i64))) :
    FnS Try.prog W0 29 #[.pointer (some ⟨bw, 2, none⟩), .int .i64 t, .slice a xs.length c] (s1 :: s2 :: L0)
      (fun e L' => ∃ (b : Bool) (es' : List Edge) (s1' s2' : Seg), ((b = true ∧ ¬ Rch (gE es) xs t ∧ es' = setE t xs es) ∨ (b = false ∧ Rch (gE es) xs t ∧ es' = es)) ∧ RwK bw x3 y3 es' s1' s2' ∧ L' = s1' :: s2' :: L0 ∧ e = .returned (.bool b)) := by
  have hh := h
  obtain ⟨v, hv, rfl⟩ := h
  obtain ⟨av, cv, rfl, _⟩ := hv.form
  refine FnS.of (args := [.pointer (some ⟨bw, 2, none⟩), .int .i64 t, .slice a xs.length c]) Try.func29 rfl rfl ?_
  refine C.seq ?_
  refine C.region ?_
  refine G.assignB rfl trivial rfl rfl rfl ?_
  refine G.nil ?_
  refine C.seq ?_
  refine C.seq ?_
  refine C.region ?_
  refine G.moveP rfl trivial rfl rfl rfl ?_
  refine G.moveI rfl trivial rfl rfl rfl ?_
  refine G.moveS rfl trivial rfl rfl rfl ?_
  refine G.call E47 rfl rfl trivial rfl rfl (rroundK W0 L0 bw x3 y3 es s1 _ hh (by omega) t a c xs hxs hr) rfl ?_
  rintro e L2 ⟨rfl, bb, hbb, rfl⟩
  refine G.nil ?_
  refine C.condB _ rfl ?_ ?_
  · intro hc0
    refine C.seq ?_
    refine C.region ?_
    refine G.assignB rfl trivial rfl rfl rfl ?_
    refine G.nil ?_
    refine C.ret ?_
    -- end c0T
    exact ⟨rfl, _, Res.of (rs := [.tmp 6]) rfl rfl, false, es, s1, _, .inr ⟨rfl, hbb.1 hc0, rfl⟩, hh, rfl, rfl⟩
  · intro hc0
    have hno : ¬ Rch (gE es) xs t := fun h2 => by rw [hbb.2 h2] at hc0; cases hc0
    refine C.skip ?_
    refine C.seq ?_
    refine C.region ?_
    refine G.assignS rfl trivial rfl rfl rfl ?_
    refine G.nil ?_
    refine C.seq ?_
    refine C.seq ?_
    refine C.region ?_
    refine G.assignI rfl trivial rfl rfl rfl ?_
    refine G.less (fun _ h => h.empty) ?_
    refine G.nil ?_
    refine C.block ?_
    refine C.loop (fun m F D' L' => ∃ (i : Nat) (ao : Option Addr) (co : Nat) (so : Seg), m = es.length - i + 0 ∧ i ≤ es.length ∧ OwnS (.slice ao (fromNot t (es.take i)).length co) (fromNot t (es.take i)).length ((fromNot t (es.take i)).flatMap edC) 86 2 so ∧ F 0 = .pointer (some ⟨bw, 2, none⟩) ∧ F 1 = .int .i64 t ∧ F 2 = .slice a xs.length c ∧ F 7 = .slice ao (fromNot t (es.take i)).length co ∧ F 8 = .int .i64 (i : Int) ∧ D' = [] ∧ so :: s1 :: [(bw, .row [x3, y3, .slice av es.length cv] 35 3)] :: L0 = L') ⟨_, ⟨0, none, 0, [], rfl, Nat.zero_le _, OwnS.nil _ _, rfl, rfl, rfl, rfl, rfl, rfl, rfl⟩⟩ ?_
    rintro m F D' L' ⟨i, ao, co, so, rfl, hi, hon, h0, h1, h2, h7, h8, rfl, rfl⟩
    refine C.fix (d := 0) h0 ?_
    refine C.fix (d := 1) h1 ?_
    refine C.fix (d := 2) h2 ?_
    refine C.fix (d := 7) h7 ?_
    refine C.fix (d := 8) h8 ?_
    refine C.seq ?_
    refine C.seq ?_
    refine C.region ?_
    refine G.moveI rfl trivial rfl rfl rfl ?_
    refine G.moveP rfl trivial rfl rfl rfl ?_
    first | refine G.nilCheckP rfl trivial rfl rfl rfl ?_ | refine G.nilCheckF rfl trivial rfl rfl rfl ?_
    refine G.fieldAddr rfl trivial rfl rfl Try.underlying33 rfl I31 rfl rfl ?_
    refine G.loadAt (by first | exact .here | exact .next .here | exact .next (.next .here) | exact .next (.next (.next .here)) | exact .next (.next (.next (.next .here))) | exact .next (.next (.next (.next (.next .here)))) | exact .next (.next (.next (.next (.next (.next .here))))) | exact .next (.next (.next (.next (.next (.next (.next .here)))))) | exact .in1 | exact .next .in1 | exact .next (.next .in1) | exact .next (.next (.next .in1)) | exact .next (.next (.next (.next .in1))) | exact .in2 | exact .next .in2 | exact .next (.next .in2) | exact .next (.next (.next .in2)) | exact .next (.next (.next (.next .in2))) | exact .app .here | exact .app (.next .here) | exact .app (.next (.next .here)) | exact .app (.next (.next (.next .here))) | exact .app (.next (.next (.next (.next .here)))) | exact .app (.next (.next (.next (.next (.next .here))))) | exact .app (.next (.next (.next (.next (.next (.next .here)))))) | exact .app (.next (.next (.next (.next (.next (.next (.next .here))))))) | exact .app .in1 | exact .app .in2 | exact .app (.next .in1) | exact .next (.app .in1) | exact .next (.next (.app .in1)) | exact .next (.app .here) | exact .next (.next (.app .here)) | exact .next (.next (.next (.app .here))) | exact .next (.next (.next (.next (.app .here))))) rfl trivial rfl rfl Try.underlying31 rfl rfl (by rfl) ?_
    refine G.lenSlice rfl trivial rfl rfl Try.underlying31 rfl ?_
    refine G.bin rfl trivial rfl rfl rfl rfl rfl ?_
    refine G.nil ?_
    refine C.cond _ rfl ?_ ?_
    · intro hc1
      have hlt : i < es.length := by omega
      obtain ⟨bq, cq, kq, hveq, rfl, hq1, hq2⟩ := hv.block (by omega)
      cases hveq
      obtain ⟨o1, o2⟩ := ed_at hlt
      have hsn := fromNot_take (t := t) hlt
      have hol := fromNot_le t (es.take i)
      rw [List.length_take] at hol
      refine C.skip ?_
      refine C.seq ?_
      refine C.block ?_
      refine C.seq ?_
      refine C.region ?_
      refine G.moveP rfl trivial rfl rfl rfl ?_
      first | refine G.nilCheckP rfl trivial rfl rfl rfl ?_ | refine G.nilCheckF rfl trivial rfl rfl rfl ?_
      refine G.fieldAddr rfl trivial rfl rfl Try.underlying33 rfl I31 rfl rfl ?_
      refine G.loadAt (by first | exact .here | exact .next .here | exact .next (.next .here) | exact .next (.next (.next .here)) | exact .next (.next (.next (.next .here))) | exact .next (.next (.next (.next (.next .here)))) | exact .next (.next (.next (.next (.next (.next .here))))) | exact .next (.next (.next (.next (.next (.next (.next .here)))))) | exact .in1 | exact .next .in1 | exact .next (.next .in1) | exact .next (.next (.next .in1)) | exact .next (.next (.next (.next .in1))) | exact .in2 | exact .next .in2 | exact .next (.next .in2) | exact .next (.next (.next .in2)) | exact .next (.next (.next (.next .in2))) | exact .app .here | exact .app (.next .here) | exact .app (.next (.next .here)) | exact .app (.next (.next (.next .here))) | exact .app (.next (.next (.next (.next .here)))) | exact .app (.next (.next (.next (.next (.next .here))))) | exact .app (.next (.next (.next (.next (.next (.next .here)))))) | exact .app (.next (.next (.next (.next (.next (.next (.next .here))))))) | exact .app .in1 | exact .app .in2 | exact .app (.next .in1) | exact .next (.app .in1) | exact .next (.next (.app .in1)) | exact .next (.app .here) | exact .next (.next (.app .here)) | exact .next (.next (.next (.app .here))) | exact .next (.next (.next (.next (.app .here))))) rfl trivial rfl rfl Try.underlying31 rfl rfl (by rfl) ?_
      refine G.moveI rfl trivial rfl rfl rfl ?_
      refine G.indexAddr rfl trivial rfl rfl Try.underlying31 I86 rfl rfl (by omega) ?_
      refine G.fieldAddr rfl trivial rfl rfl Try.underlying86 rfl I2 rfl rfl ?_
      refine G.loadAt (.next .here) rfl trivial rfl rfl Try.underlying2 rfl rfl o1 ?_
      refine G.moveI rfl trivial rfl rfl rfl ?_
      refine G.bin rfl trivial rfl rfl rfl rfl rfl ?_
      refine G.nil ?_
      refine C.cond _ rfl ?_ ?_
      · intro hc2
        refine C.region ?_
        refine G.moveS rfl trivial rfl rfl rfl ?_
        refine G.moveP rfl trivial rfl rfl rfl ?_
        first | refine G.nilCheckP rfl trivial rfl rfl rfl ?_ | refine G.nilCheckF rfl trivial rfl rfl rfl ?_
        refine G.fieldAddr rfl trivial rfl rfl Try.underlying33 rfl I31 rfl rfl ?_
        refine G.loadAt (by first | exact .here | exact .next .here | exact .next (.next .here) | exact .next (.next (.next .here)) | exact .next (.next (.next (.next .here))) | exact .next (.next (.next (.next (.next .here)))) | exact .next (.next (.next (.next (.next (.next .here))))) | exact .next (.next (.next (.next (.next (.next (.next .here)))))) | exact .in1 | exact .next .in1 | exact .next (.next .in1) | exact .next (.next (.next .in1)) | exact .next (.next (.next (.next .in1))) | exact .in2 | exact .next .in2 | exact .next (.next .in2) | exact .next (.next (.next .in2)) | exact .next (.next (.next (.next .in2))) | exact .app .here | exact .app (.next .here) | exact .app (.next (.next .here)) | exact .app (.next (.next (.next .here))) | exact .app (.next (.next (.next (.next .here)))) | exact .app (.next (.next (.next (.next (.next .here))))) | exact .app (.next (.next (.next (.next (.next (.next .here)))))) | exact .app (.next (.next (.next (.next (.next (.next (.next .here))))))) | exact .app .in1 | exact .app .in2 | exact .app (.next .in1) | exact .next (.app .in1) | exact .next (.next (.app .in1)) | exact .next (.app .here) | exact .next (.next (.app .here)) | exact .next (.next (.next (.app .here))) | exact .next (.next (.next (.next (.app .here))))) rfl trivial rfl rfl Try.underlying31 rfl rfl (by rfl) ?_
        refine G.moveI rfl trivial rfl rfl rfl ?_
        refine G.indexAddr rfl trivial rfl rfl Try.underlying31 I86 rfl rfl (by omega) ?_
        refine G.loadAgg (edC es[i]) rfl trivial rfl rfl Try.underlying86 rfl I86 rfl rfl (fun w hm => agg_of_row hm (.next .here) (by have h := row_chunk (rs := []) (f := edC) (k := 2) (fun _ _ => rfl) hlt; rw [List.append_nil] at h; exact h)) ?_
        refine G.buildSliceL (cs := edC es[i]) (zs := [(.int .i64 0), (.int .i64 0)]) rfl trivial rfl rfl Try.underlying31 I86 rfl (by kernel_rfl) rfl rfl ?_
        intro b41
        refine G.less (fun _ h => h.perm2) ?_
        refine G.append hon rfl trivial rfl rfl Try.underlying31 Try.underlying31 I86 rfl (by decide) rfl rfl (by decide) (Rd.row0 (.next .here)) rfl (edC_ok _) (by omega) ?_
        intro v42 s42 hv42
        obtain ⟨a42, c42, rfl, _⟩ := hv42.form
        refine G.assignS rfl trivial rfl rfl rfl ?_
        refine G.nil ?_
        refine C.region ?_
        refine G.moveI rfl trivial rfl rfl rfl ?_
        refine G.addN (j := 1) rfl trivial rfl rfl rfl rfl (by omega) ?_
        refine G.assignI rfl trivial rfl rfl rfl ?_
        refine G.less (fun _ h => h.skip1) ?_
        refine G.nil ?_
        have e1 : fromNot t (es.take (i + 1)) = fromNot t (es.take i) ++ [es[i]] := by rw [hsn, if_pos hc2]
        exact ⟨es.length - (i + 1) + 0, by omega, i + 1, a42, c42, s42, rfl, by omega, by rw [e1, List.length_append, List.flatMap_append]; simpa using hv42, rfl, rfl, rfl, by rw [e1, List.length_append]; rfl, rfl, rfl, rfl⟩
      · intro hc2
        refine C.skip ?_
        refine C.region ?_
        refine G.moveI rfl trivial rfl rfl rfl ?_
        refine G.addN (j := 1) rfl trivial rfl rfl rfl rfl (by omega) ?_
        refine G.assignI rfl trivial rfl rfl rfl ?_
        refine G.nil ?_
        have e1 : fromNot t (es.take (i + 1)) = fromNot t (es.take i) := by rw [hsn, if_neg hc2]
        exact ⟨es.length - (i + 1) + 0, by omega, i + 1, ao, co, so, rfl, by omega, by rw [e1]; exact hon, rfl, rfl, rfl, by rw [e1]; rfl, rfl, rfl, rfl⟩
    · intro hc1
      rw [List.take_of_length_le (show es.length ≤ i by omega)] at hon h7 ⊢
      have hfl := fromNot_le t es
      refine C.exit ?_
      refine C.seq ?_
      refine C.seq ?_
      refine C.region ?_
      refine G.assignI rfl trivial rfl rfl rfl ?_
      refine G.nil ?_
      refine C.block ?_
      refine C.loop (fun m F D' L' => ∃ (i : Nat) (ao : Option Addr) (co : Nat) (so : Seg), m = xs.length - i + 0 ∧ i ≤ xs.length ∧ OwnS (.slice ao (setE t (xs.take i) es).length co) (setE t (xs.take i) es).length ((setE t (xs.take i) es).flatMap edC) 86 2 so ∧ F 0 = .pointer (some ⟨bw, 2, none⟩) ∧ F 1 = .int .i64 t ∧ F 2 = .slice a xs.length c ∧ F 7 = .slice ao (setE t (xs.take i) es).length co ∧ F 9 = .int .i64 (i : Int) ∧ D' = [] ∧ so :: s1 :: [(bw, .row [x3, y3, .slice av es.length cv] 35 3)] :: L0 = L') ⟨_, ⟨0, ao, co, so, rfl, Nat.zero_le _, by simpa [setE] using hon, rfl, rfl, rfl, by simp [setE]; rfl, rfl, rfl, rfl⟩⟩ ?_
      rintro m F D' L' ⟨i, ao, co, so, rfl, hi, hon, h0, h1, h2, h7, h9, rfl, rfl⟩
      refine C.fix (d := 0) h0 ?_
      refine C.fix (d := 1) h1 ?_
      refine C.fix (d := 2) h2 ?_
      refine C.fix (d := 7) h7 ?_
      refine C.fix (d := 9) h9 ?_
      refine C.seq ?_
      refine C.seq ?_
      refine C.region ?_
      refine G.moveI rfl trivial rfl rfl rfl ?_
      refine G.moveS rfl trivial rfl rfl rfl ?_
      refine G.lenSlice rfl trivial rfl rfl Try.underlying27 rfl ?_
      refine G.bin rfl trivial rfl rfl rfl rfl rfl ?_
      refine G.nil ?_
      refine C.cond _ rfl ?_ ?_
      · intro hc3
        have hlt : i < xs.length := by omega
        obtain ⟨p, o, hao, _⟩ := hr.some_ (by simp; omega)
        subst hao
        have hsl : (setE t (xs.take i) es).length = (fromNot t es).length + i := by unfold setE; simp; omega
        have e1 : setE t (xs.take (i + 1)) es = setE t (xs.take i) es ++ [(t, xs[i]!)] := by unfold setE; rw [take_snoc hlt]; simp
        refine C.skip ?_
        refine C.seq ?_
        refine C.block ?_
        refine C.region ?_
        refine G.moveS rfl trivial rfl rfl rfl ?_
        refine G.moveI rfl trivial rfl rfl rfl ?_
        refine G.moveS rfl trivial rfl rfl rfl ?_
        refine G.moveI rfl trivial rfl rfl rfl ?_
        refine G.indexAddr rfl trivial rfl rfl Try.underlying27 I2 rfl rfl (by omega) ?_
        refine G.load rfl trivial rfl rfl Try.underlying2 rfl rfl (rd_at (hr0 s1 _).cons hlt) ?_
        refine G.buildL (cs := edC (t, xs[i]!)) rfl trivial rfl rfl Try.underlying86 I86 B86 rfl rfl ?_
        refine G.buildSliceL (cs := edC (t, xs[i]!)) (zs := [(.int .i64 0), (.int .i64 0)]) rfl trivial rfl rfl Try.underlying31 I86 rfl (by kernel_rfl) rfl rfl ?_
        intro b56
        refine G.less (fun _ h => h.perm2) ?_
        refine G.append hon rfl trivial rfl rfl Try.underlying31 Try.underlying31 I86 rfl (by decide) rfl rfl (by decide) (Rd.row0 (.next .here)) rfl (edC_ok _) (by omega) ?_
        intro v57 s57 hv57
        obtain ⟨a57, c57, rfl, _⟩ := hv57.form
        refine G.assignS rfl trivial rfl rfl rfl ?_
        refine G.nil ?_
        refine C.region ?_
        refine G.moveI rfl trivial rfl rfl rfl ?_
        refine G.addN (j := 1) rfl trivial rfl rfl rfl rfl (by omega) ?_
        refine G.assignI rfl trivial rfl rfl rfl ?_
        refine G.less (fun _ h => h.skip1) ?_
        refine G.nil ?_
        exact ⟨xs.length - (i + 1) + 0, by omega, i + 1, a57, c57, s57, rfl, by omega, by rw [e1, List.length_append, List.flatMap_append]; simpa using hv57, rfl, rfl, rfl, by rw [e1, List.length_append]; rfl, rfl, rfl, rfl⟩
      · intro hc3
        rw [List.take_of_length_le (show xs.length ≤ i by omega)] at hon h7 ⊢
        refine C.exit ?_
        refine C.seq ?_
        refine C.region ?_
        refine G.moveP rfl trivial rfl rfl rfl ?_
        refine G.moveS rfl trivial rfl rfl rfl ?_
        first | refine G.nilCheckP rfl trivial rfl rfl rfl ?_ | refine G.nilCheckF rfl trivial rfl rfl rfl ?_
        refine G.fieldAddr rfl trivial rfl rfl Try.underlying33 rfl I31 rfl rfl ?_
        refine G.store (v := .slice _ _ _) (by first | exact .here | exact .next .here | exact .next (.next .here) | exact .next (.next (.next .here)) | exact .next (.next (.next (.next .here))) | exact .next (.next (.next (.next (.next .here)))) | exact .next (.next (.next (.next (.next (.next .here))))) | exact .next (.next (.next (.next (.next (.next (.next .here)))))) | exact .in1 | exact .next .in1 | exact .next (.next .in1) | exact .next (.next (.next .in1)) | exact .next (.next (.next (.next .in1))) | exact .in2 | exact .next .in2 | exact .next (.next .in2) | exact .next (.next (.next .in2)) | exact .next (.next (.next (.next .in2))) | exact .app .here | exact .app (.next .here) | exact .app (.next (.next .here)) | exact .app (.next (.next (.next .here))) | exact .app (.next (.next (.next (.next .here)))) | exact .app (.next (.next (.next (.next (.next .here))))) | exact .app (.next (.next (.next (.next (.next (.next .here)))))) | exact .app (.next (.next (.next (.next (.next (.next (.next .here))))))) | exact .app .in1 | exact .app .in2 | exact .app (.next .in1) | exact .next (.app .in1) | exact .next (.next (.app .in1)) | exact .next (.app .here) | exact .next (.next (.app .here)) | exact .next (.next (.next (.app .here))) | exact .next (.next (.next (.next (.app .here))))) rfl trivial rfl I31 rfl rfl rfl (by first | decide | (simp; done) | (simp; omega)) _ (by first | (simp only [List.set_cons_succ, List.set_cons_zero]; done) | (simp only [List.set_cons_succ, List.set_cons_zero]; exact rfl) | exact rfl) ?_
        refine G.nil ?_
        refine C.seq ?_
        refine C.region ?_
        refine G.assignB rfl trivial rfl rfl rfl ?_
        refine G.nil ?_
        refine C.less (fun _ h => h.skip1) ?_
        refine C.ret ?_
        -- end c0Fc1Fc3F
        exact ⟨rfl, _, Res.of (rs := [.tmp 6]) rfl rfl, true, _, so, _, .inl ⟨rfl, hno, rfl⟩, ⟨_, hon, rfl⟩, rfl, rfl⟩

end ref
end Go.Proofs.Ytomiidlbfcfpiaa
