/-
  Locks: LockApart walked.
-/
import Derived.Test.YtkiiafmcfdfbhaaLo11
namespace Go.Proofs.Ytkiiafmcfdfbhaa
open Go Go.SL Go.RowKit Go.Sort

theorem against_comm (x y : One) : againstB x y = againstB y x := by
  obtain ⟨x1, x2, x3⟩ := x
  obtain ⟨y1, y2, y3⟩ := y
  unfold againstB
  simp only
  by_cases h1 : x1 = y1
  · simp [h1]
  · rw [if_neg h1, if_neg (show ¬ y1 = x1 from fun h => h1 h.symm)]
    by_cases h2 : x2 = 3 <;> by_cases h3 : y2 = 3
    · simp [h2, h3]
    · simp [h2, h3]
    · simp [h2, h3]
    · rw [if_neg h2, if_neg h3, if_neg h3, if_neg h2]
      rw [show decide (x3 = y3) = decide (y3 = x3) from decide_eq_decide.2 ⟨Eq.symm, Eq.symm⟩, Bool.or_comm]
/-- none stands against another one -/
def Apart (ls : List One) : Prop := ∀ x ∈ ls, ∀ y ∈ ls, againstB x y = false
theorem apart_locked {x : One} {ls : List One} (h : Apart ls) : Apart (locked x ls) := by
  unfold locked
  split
  · rename_i hno
    split
    · exact h
    · have hx : ∀ y ∈ ls, againstB x y = false := by
        intro y hy
        have h1 : ls.filter (againstB x) = [] := by simpa [onL] using hno
        have h2 := List.filter_eq_nil_iff.1 h1 y hy
        simpa using h2
      intro a ha b hb
      rcases List.mem_append.1 ha with ha | ha <;> rcases List.mem_append.1 hb with hb | hb
      · exact h a ha b hb
      · rw [List.mem_singleton.1 hb, against_comm]; exact hx a ha
      · rw [List.mem_singleton.1 ha]; exact hx b hb
      · rw [List.mem_singleton.1 ha, List.mem_singleton.1 hb]; exact against_self x x rfl
  · exact h
theorem apart_others {t : Int} {ls : List One} (h : Apart ls) : Apart (others t ls) := fun x hx y hy => h x (List.mem_filter.1 hx).1 y (List.mem_filter.1 hy).1
theorem apart_no {ls : List One} (h : Apart ls) {t u : Int} {k : ByteArray} (hw : inL (lockOf t 2 k) ls = true) (htu : ¬ t = u) (m : Int) (k' : ByteArray) (hm : (m = 3) ∨ ((m = 1 ∨ m = 2) ∧ k' = k)) : inL (lockOf u m k') ls = false := by
  rw [Bool.eq_false_iff]
  intro h2
  have h3 := h _ ((inL_iff _ _).1 hw) _ ((inL_iff _ _).1 h2)
  rcases hm with rfl | ⟨rfl | rfl, rfl⟩ <;> simp [againstB, lockOf, htu] at h3
section laws
variable (W0 : World)
theorem apart_walk (a : Option Addr) (len cap : Nat) (ops : List LOp) (h : LOps W0 a len cap ops) : FnS Try.prog W0 4 #[.slice a len cap] [] (fun e _ => e = .returned (.bool true)) := by
  obtain ⟨rfl, hlc, hcap, hr, hwf⟩ := h
  have hmax : maxLen ≤ 9223372036854775807 := by decide
  refine FnS.of (args := [.slice a ops.length cap]) Try.func4 rfl rfl ?_
  refine C.seq ?_
  refine C.region ?_
  refine G.assignB rfl trivial rfl rfl rfl ?_
  refine G.nil ?_
  refine C.seq ?_
  refine C.region ?_
  refine G.call E9 rfl rfl trivial rfl rfl (begun_spec W0 _) rfl ?_
  rintro e L2 ⟨rfl, rfl⟩
  refine G.assignB rfl trivial rfl rfl rfl ?_
  refine G.nil ?_
  refine C.seq ?_
  refine C.seq ?_
  refine C.region ?_
  refine G.moveB rfl trivial rfl rfl rfl ?_
  first | refine G.notD rfl trivial rfl rfl rfl ?_ | refine G.not rfl trivial rfl rfl rfl ?_
  refine G.nil ?_
  refine C.condF rfl ?_
  refine C.skip ?_
  refine C.seq ?_
  refine C.region ?_
  refine G.call E10 rfl rfl trivial rfl rfl (new_spec W0 _) rfl ?_
  rintro e L2 ⟨bk, s1, s2, hk, rfl, rfl⟩
  refine G.assignP rfl trivial rfl rfl rfl ?_
  refine G.nil ?_
  refine C.seq ?_
  refine C.seq ?_
  refine C.region ?_
  refine G.assignI rfl trivial rfl rfl rfl ?_
  refine G.nil ?_
  refine C.block ?_
  refine C.loop (fun m F D' L' => ∃ (i : Nat) (ls : List One) (s1 s2 : Seg), m = ops.length - i + 0 ∧ i ≤ ops.length ∧ i ≤ 40 ∧ ls.length ≤ i ∧ Apart ls ∧ LkIs bk ls s1 s2 ∧ F 0 = .slice a ops.length cap ∧ F 4 = .pointer (some ⟨bk, 0, none⟩) ∧ F 5 = .int .i64 (i : Int) ∧ D' = [] ∧ s1 :: s2 :: [] = L') ⟨_, ⟨0, [], s1, s2, rfl, by omega, by omega, by simp, (fun x hx => absurd hx (by simp)), hk, rfl, rfl, rfl, rfl, rfl⟩⟩ ?_
  rintro m F D' L' ⟨i, ls, s1, s2, rfl, hi, hi40, hln, hap, hk, h0, h4, h5, rfl, rfl⟩
  refine C.fix (d := 0) h0 ?_
  refine C.fix (d := 4) h4 ?_
  refine C.fix (d := 5) h5 ?_
  refine C.seq ?_
  refine C.seq ?_
  refine C.region ?_
  refine G.moveI rfl trivial rfl rfl rfl ?_
  refine G.moveS rfl trivial rfl rfl rfl ?_
  refine G.lenSlice rfl trivial rfl rfl Try.underlying22 rfl ?_
  refine G.bin rfl trivial rfl rfl rfl rfl rfl ?_
  refine G.moveB rfl trivial rfl rfl rfl ?_
  refine G.fork (t := 19) _ rfl ?_ ?_
  · intro hg19
    refine G.moveI rfl ⟨_, rfl, rfl, rfl⟩ rfl rfl rfl ?_
    refine G.bin rfl ⟨_, rfl, rfl, rfl⟩ rfl rfl rfl rfl rfl ?_
    first | refine G.pickT rfl trivial rfl rfl rfl rfl ?_ | refine G.pickF rfl trivial rfl rfl rfl rfl ?_
    refine G.nil ?_
    refine C.cond _ rfl ?_ ?_
    · intro hc1
      have hlt : i < ops.length := by first | assumption | omega
      obtain ⟨p, o, rfl, _⟩ := (hr []).some_ (by rw [chunk_length (k := 4) (fun _ _ => rfl)]; omega)
      refine C.skip ?_
      refine C.seq ?_
      refine C.block ?_
      refine C.seq ?_
      refine C.region ?_
      refine G.moveS rfl trivial rfl rfl rfl ?_
      refine G.moveI rfl trivial rfl rfl rfl ?_
      refine G.indexAddr rfl trivial rfl rfl Try.underlying22 I31 rfl rfl (by omega) ?_
      refine G.loadAgg (opC ops[i]) rfl trivial rfl rfl Try.underlying31 rfl I31 rfl rfl (cellR hr hlt) ?_
      generalize ops[i] = op
      obtain ⟨kd, mo, tx, ky⟩ := op
      refine G.allocC (cs := [(.int .i64 0), (.int .i64 0), (.int .i64 0), (.string ByteArray.empty)]) rfl trivial rfl rfl I31 rfl ?_
      intro b6
      refine G.stRow .here rfl trivial rfl I31 rfl rfl rfl (by rfl) (opC_ok _) ?_
      refine G.nil ?_
      refine C.cut (fun F D' L' => ∃ (ls : List One) (s1 s2 : Seg), ls.length ≤ i + 1 ∧ Apart ls ∧ LkIs bk ls s1 s2 ∧ F 0 = .slice (some ⟨p, o, none⟩) ops.length cap ∧ F 4 = .pointer (some ⟨bk, 0, none⟩) ∧ F 5 = .int .i64 (i : Int) ∧ D' = [] ∧ s1 :: s2 :: [] = L') ?_ ?_
      ·
        refine C.seq ?_
        refine C.region ?_
        refine G.fieldAddr rfl trivial rfl rfl Try.underlying31 rfl I3 rfl rfl ?_
        refine G.loadAt (by first | exact .here | exact .next .here | exact .next (.next .here) | exact .next (.next (.next .here)) | exact .next (.next (.next (.next .here))) | exact .next (.next (.next (.next (.next .here)))) | exact .next (.next (.next (.next (.next (.next .here))))) | exact .next (.next (.next (.next (.next (.next (.next .here)))))) | exact .in1 | exact .next .in1 | exact .next (.next .in1) | exact .next (.next (.next .in1)) | exact .next (.next (.next (.next .in1))) | exact .in2 | exact .next .in2 | exact .next (.next .in2) | exact .next (.next (.next .in2)) | exact .next (.next (.next (.next .in2))) | exact .app .here | exact .app (.next .here) | exact .app (.next (.next .here)) | exact .app (.next (.next (.next .here))) | exact .app (.next (.next (.next (.next .here)))) | exact .app (.next (.next (.next (.next (.next .here))))) | exact .app (.next (.next (.next (.next (.next (.next .here)))))) | exact .app (.next (.next (.next (.next (.next (.next (.next .here))))))) | exact .app .in1 | exact .app .in2 | exact .app (.next .in1) | exact .next (.app .in1) | exact .next (.next (.app .in1)) | exact .next (.app .here) | exact .next (.next (.app .here)) | exact .next (.next (.next (.app .here))) | exact .next (.next (.next (.next (.app .here))))) rfl trivial rfl rfl Try.underlying3 rfl rfl (by rfl) ?_
        refine G.bin rfl trivial rfl rfl rfl rfl rfl ?_
        refine G.nil ?_
        refine C.cond _ rfl ?_ ?_
        · intro hc2
          refine C.region ?_
          refine G.moveP rfl trivial rfl rfl rfl ?_
          refine G.fieldAddr rfl trivial rfl rfl Try.underlying31 rfl I2 rfl rfl ?_
          refine G.loadAt (by first | exact .here | exact .next .here | exact .next (.next .here) | exact .next (.next (.next .here)) | exact .next (.next (.next (.next .here))) | exact .next (.next (.next (.next (.next .here)))) | exact .next (.next (.next (.next (.next (.next .here))))) | exact .next (.next (.next (.next (.next (.next (.next .here)))))) | exact .in1 | exact .next .in1 | exact .next (.next .in1) | exact .next (.next (.next .in1)) | exact .next (.next (.next (.next .in1))) | exact .in2 | exact .next .in2 | exact .next (.next .in2) | exact .next (.next (.next .in2)) | exact .next (.next (.next (.next .in2))) | exact .app .here | exact .app (.next .here) | exact .app (.next (.next .here)) | exact .app (.next (.next (.next .here))) | exact .app (.next (.next (.next (.next .here)))) | exact .app (.next (.next (.next (.next (.next .here))))) | exact .app (.next (.next (.next (.next (.next (.next .here)))))) | exact .app (.next (.next (.next (.next (.next (.next (.next .here))))))) | exact .app .in1 | exact .app .in2 | exact .app (.next .in1) | exact .next (.app .in1) | exact .next (.next (.app .in1)) | exact .next (.app .here) | exact .next (.next (.app .here)) | exact .next (.next (.next (.app .here))) | exact .next (.next (.next (.next (.app .here))))) rfl trivial rfl rfl Try.underlying2 rfl rfl (by rfl) ?_
          refine G.bin rfl trivial rfl rfl rfl rfl rfl ?_
          refine G.low (d := 35) 3 (by decide) ⟨_, rfl⟩ ?_
          intro j35 hj35
          refine G.addN (i := 1) rfl trivial rfl rfl rfl rfl (by omega) ?_
          refine G.fieldAddr rfl trivial rfl rfl Try.underlying31 rfl I3 rfl rfl ?_
          refine G.loadAt (by first | exact .here | exact .next .here | exact .next (.next .here) | exact .next (.next (.next .here)) | exact .next (.next (.next (.next .here))) | exact .next (.next (.next (.next (.next .here)))) | exact .next (.next (.next (.next (.next (.next .here))))) | exact .next (.next (.next (.next (.next (.next (.next .here)))))) | exact .in1 | exact .next .in1 | exact .next (.next .in1) | exact .next (.next (.next .in1)) | exact .next (.next (.next (.next .in1))) | exact .in2 | exact .next .in2 | exact .next (.next .in2) | exact .next (.next (.next .in2)) | exact .next (.next (.next (.next .in2))) | exact .app .here | exact .app (.next .here) | exact .app (.next (.next .here)) | exact .app (.next (.next (.next .here))) | exact .app (.next (.next (.next (.next .here)))) | exact .app (.next (.next (.next (.next (.next .here))))) | exact .app (.next (.next (.next (.next (.next (.next .here)))))) | exact .app (.next (.next (.next (.next (.next (.next (.next .here))))))) | exact .app .in1 | exact .app .in2 | exact .app (.next .in1) | exact .next (.app .in1) | exact .next (.next (.app .in1)) | exact .next (.app .here) | exact .next (.next (.app .here)) | exact .next (.next (.next (.app .here))) | exact .next (.next (.next (.next (.app .here))))) rfl trivial rfl rfl Try.underlying3 rfl rfl (by rfl) ?_
          refine G.bin rfl trivial rfl rfl rfl rfl rfl ?_
          refine G.low (d := 39) 1 (by decide) ⟨_, rfl⟩ ?_
          intro j39 hj39
          refine G.addN (i := 1) rfl trivial rfl rfl rfl rfl (by omega) ?_
          refine G.moveI rfl trivial rfl rfl rfl ?_
          refine G.rem rfl trivial rfl rfl rfl rfl (by omega) ?_
          refine G.convInt rfl trivial rfl rfl Try.underlying3 Try.underlying5 rfl ?_
          refine G.bin rfl trivial rfl rfl rfl rfl rfl ?_
          refine G.byte (d := 44) ⟨_, rfl⟩ ?_
          intro c44
          refine G.buildSliceL (cs := [.int .u8 (c44.toNat : Int)]) (zs := [(.int .u8 0)]) rfl trivial rfl rfl Try.underlying43 I5 rfl (by kernel_rfl) rfl rfl ?_
          intro b45
          refine G.bytesStr [c44] rfl trivial rfl rfl Try.underlying43 Try.underlying5 Try.underlying9 rfl rfl (Rd.row0 .here) ?_
          refine G.call E12 rfl rfl trivial rfl rfl (FnS.perm (lock_spec W0 _ bk ls s1 s2 hk (by omega) ((1 + j35 : Nat) : Int) ((1 + j39 : Nat) : Int) (strB [c44]) (by omega)) P22) rfl ?_
          rintro e L2 ⟨v, sv, s3, s4, hk2, hv, rfl, rfl⟩
          refine G.less (L' := s3 :: s4 :: []) (fun _ h => h.tail.fewer (by simp)) ?_
          refine G.nil ?_
          exact ⟨_, s3, s4, by have := locked_le (lockOf ((1 + j35 : Nat) : Int) ((1 + j39 : Nat) : Int) (strB [c44])) ls; omega, apart_locked hap, hk2, rfl, rfl, rfl, rfl, rfl⟩
        · intro hc2
          refine C.seq ?_
          refine C.region ?_
          refine G.fieldAddr rfl trivial rfl rfl Try.underlying31 rfl I3 rfl rfl ?_
          refine G.loadAt (by first | exact .here | exact .next .here | exact .next (.next .here) | exact .next (.next (.next .here)) | exact .next (.next (.next (.next .here))) | exact .next (.next (.next (.next (.next .here)))) | exact .next (.next (.next (.next (.next (.next .here))))) | exact .next (.next (.next (.next (.next (.next (.next .here)))))) | exact .in1 | exact .next .in1 | exact .next (.next .in1) | exact .next (.next (.next .in1)) | exact .next (.next (.next (.next .in1))) | exact .in2 | exact .next .in2 | exact .next (.next .in2) | exact .next (.next (.next .in2)) | exact .next (.next (.next (.next .in2))) | exact .app .here | exact .app (.next .here) | exact .app (.next (.next .here)) | exact .app (.next (.next (.next .here))) | exact .app (.next (.next (.next (.next .here)))) | exact .app (.next (.next (.next (.next (.next .here))))) | exact .app (.next (.next (.next (.next (.next (.next .here)))))) | exact .app (.next (.next (.next (.next (.next (.next (.next .here))))))) | exact .app .in1 | exact .app .in2 | exact .app (.next .in1) | exact .next (.app .in1) | exact .next (.next (.app .in1)) | exact .next (.app .here) | exact .next (.next (.app .here)) | exact .next (.next (.next (.app .here))) | exact .next (.next (.next (.next (.app .here))))) rfl trivial rfl rfl Try.underlying3 rfl rfl (by rfl) ?_
          refine G.bin rfl trivial rfl rfl rfl rfl rfl ?_
          refine G.nil ?_
          refine C.cond _ rfl ?_ ?_
          · intro hc3
            refine C.region ?_
            refine G.moveP rfl trivial rfl rfl rfl ?_
            refine G.fieldAddr rfl trivial rfl rfl Try.underlying31 rfl I2 rfl rfl ?_
            refine G.loadAt (by first | exact .here | exact .next .here | exact .next (.next .here) | exact .next (.next (.next .here)) | exact .next (.next (.next (.next .here))) | exact .next (.next (.next (.next (.next .here)))) | exact .next (.next (.next (.next (.next (.next .here))))) | exact .next (.next (.next (.next (.next (.next (.next .here)))))) | exact .in1 | exact .next .in1 | exact .next (.next .in1) | exact .next (.next (.next .in1)) | exact .next (.next (.next (.next .in1))) | exact .in2 | exact .next .in2 | exact .next (.next .in2) | exact .next (.next (.next .in2)) | exact .next (.next (.next (.next .in2))) | exact .app .here | exact .app (.next .here) | exact .app (.next (.next .here)) | exact .app (.next (.next (.next .here))) | exact .app (.next (.next (.next (.next .here)))) | exact .app (.next (.next (.next (.next (.next .here))))) | exact .app (.next (.next (.next (.next (.next (.next .here)))))) | exact .app (.next (.next (.next (.next (.next (.next (.next .here))))))) | exact .app .in1 | exact .app .in2 | exact .app (.next .in1) | exact .next (.app .in1) | exact .next (.next (.app .in1)) | exact .next (.app .here) | exact .next (.next (.app .here)) | exact .next (.next (.next (.app .here))) | exact .next (.next (.next (.next (.app .here))))) rfl trivial rfl rfl Try.underlying2 rfl rfl (by rfl) ?_
            refine G.bin rfl trivial rfl rfl rfl rfl rfl ?_
            refine G.low (d := 54) 3 (by decide) ⟨_, rfl⟩ ?_
            intro j54 hj54
            refine G.addN (i := 1) rfl trivial rfl rfl rfl rfl (by omega) ?_
            refine G.call E15 rfl rfl trivial rfl rfl (FnS.perm (free_spec W0 _ bk ls s1 s2 hk (by omega) ((1 + j54 : Nat) : Int)) P3.symm) rfl ?_
            rintro e L2 ⟨s3, s4, hk2, rfl, rfl⟩
            refine G.less (L' := s3 :: s4 :: []) (fun _ h => h.fewer (by simp)) ?_
            refine G.nil ?_
            exact ⟨_, s3, s4, by have := others_le ((1 + j54 : Nat) : Int) ls; omega, apart_others hap, hk2, rfl, rfl, rfl, rfl, rfl⟩
          · intro hc3
            refine C.region ?_
            refine G.moveP rfl trivial rfl rfl rfl ?_
            refine G.fieldAddr rfl trivial rfl rfl Try.underlying31 rfl I2 rfl rfl ?_
            refine G.loadAt (by first | exact .here | exact .next .here | exact .next (.next .here) | exact .next (.next (.next .here)) | exact .next (.next (.next (.next .here))) | exact .next (.next (.next (.next (.next .here)))) | exact .next (.next (.next (.next (.next (.next .here))))) | exact .next (.next (.next (.next (.next (.next (.next .here)))))) | exact .in1 | exact .next .in1 | exact .next (.next .in1) | exact .next (.next (.next .in1)) | exact .next (.next (.next (.next .in1))) | exact .in2 | exact .next .in2 | exact .next (.next .in2) | exact .next (.next (.next .in2)) | exact .next (.next (.next (.next .in2))) | exact .app .here | exact .app (.next .here) | exact .app (.next (.next .here)) | exact .app (.next (.next (.next .here))) | exact .app (.next (.next (.next (.next .here)))) | exact .app (.next (.next (.next (.next (.next .here))))) | exact .app (.next (.next (.next (.next (.next (.next .here)))))) | exact .app (.next (.next (.next (.next (.next (.next (.next .here))))))) | exact .app .in1 | exact .app .in2 | exact .app (.next .in1) | exact .next (.app .in1) | exact .next (.next (.app .in1)) | exact .next (.app .here) | exact .next (.next (.app .here)) | exact .next (.next (.next (.app .here))) | exact .next (.next (.next (.next (.app .here))))) rfl trivial rfl rfl Try.underlying2 rfl rfl (by rfl) ?_
            refine G.bin rfl trivial rfl rfl rfl rfl rfl ?_
            refine G.low (d := 60) 3 (by decide) ⟨_, rfl⟩ ?_
            intro j60 hj60
            refine G.addN (i := 1) rfl trivial rfl rfl rfl rfl (by omega) ?_
            refine G.call E12 rfl rfl trivial rfl rfl (FnS.perm (lock_spec W0 _ bk ls s1 s2 hk (by omega) ((1 + j60 : Nat) : Int) 3 ByteArray.empty (by decide)) P3.symm) rfl ?_
            rintro e L2 ⟨v, sv, s3, s4, hk2, hv, rfl, rfl⟩
            refine G.less (L' := s3 :: s4 :: []) (fun _ h => h.tail.fewer (by simp)) ?_
            refine G.nil ?_
            exact ⟨_, s3, s4, by have := locked_le (lockOf ((1 + j60 : Nat) : Int) 3 ByteArray.empty) ls; omega, apart_locked hap, hk2, rfl, rfl, rfl, rfl, rfl⟩
      ·
        rintro F D' L' ⟨ls, s1, s2, hln, hap, hk, h0, h4, h5, rfl, rfl⟩
        refine C.fix (d := 0) h0 ?_
        refine C.fix (d := 4) h4 ?_
        refine C.fix (d := 5) h5 ?_
        refine C.seq ?_
        refine C.region ?_
        refine G.assignI rfl trivial rfl rfl rfl ?_
        refine G.nil ?_
        refine C.block ?_
        refine C.loop (fun m F D' L' => ∃ (t : Nat), m = 5 - t + 0 ∧ t ≤ 5 ∧ F 0 = .slice (some ⟨p, o, none⟩) ops.length cap ∧ F 4 = .pointer (some ⟨bk, 0, none⟩) ∧ F 5 = .int .i64 (i : Int) ∧ F 7 = .int .i64 (t : Int) ∧ D' = [] ∧ s1 :: s2 :: [] = L') ⟨_, ⟨1, rfl, by omega, rfl, rfl, rfl, rfl, rfl, rfl⟩⟩ ?_
        rintro m F D' L' ⟨t, rfl, ht, h0, h4, h5, h7, rfl, rfl⟩
        refine C.fix (d := 0) h0 ?_
        refine C.fix (d := 4) h4 ?_
        refine C.fix (d := 5) h5 ?_
        refine C.fix (d := 7) h7 ?_
        refine C.seq ?_
        refine C.seq ?_
        refine C.region ?_
        refine G.moveI rfl trivial rfl rfl rfl ?_
        refine G.bin rfl trivial rfl rfl rfl rfl rfl ?_
        refine G.nil ?_
        refine C.cond _ rfl ?_ ?_
        · intro hc4
          refine C.skip ?_
          refine C.seq ?_
          refine C.block ?_
          refine C.seq ?_
          refine C.region ?_
          refine G.assignI rfl trivial rfl rfl rfl ?_
          refine G.nil ?_
          refine C.block ?_
          refine C.loop (fun m F D' L' => ∃ (u : Nat), m = 5 - u + 0 ∧ u ≤ 5 ∧ F 0 = .slice (some ⟨p, o, none⟩) ops.length cap ∧ F 4 = .pointer (some ⟨bk, 0, none⟩) ∧ F 5 = .int .i64 (i : Int) ∧ F 7 = .int .i64 (t : Int) ∧ F 8 = .int .i64 (u : Int) ∧ D' = [] ∧ s1 :: s2 :: [] = L') ⟨_, ⟨1, rfl, by omega, rfl, rfl, rfl, rfl, rfl, rfl, rfl⟩⟩ ?_
          rintro m F D' L' ⟨u, rfl, hu, h0, h4, h5, h7, h8, rfl, rfl⟩
          refine C.fix (d := 0) h0 ?_
          refine C.fix (d := 4) h4 ?_
          refine C.fix (d := 5) h5 ?_
          refine C.fix (d := 7) h7 ?_
          refine C.fix (d := 8) h8 ?_
          refine C.seq ?_
          refine C.seq ?_
          refine C.region ?_
          refine G.moveI rfl trivial rfl rfl rfl ?_
          refine G.bin rfl trivial rfl rfl rfl rfl rfl ?_
          refine G.nil ?_
          refine C.cond _ rfl ?_ ?_
          · intro hc5
            refine C.skip ?_
            refine C.seq ?_
            refine C.block ?_
            refine C.seq ?_
            refine C.region ?_
            refine G.assignI rfl trivial rfl rfl rfl ?_
            refine G.nil ?_
            refine C.block ?_
            refine C.loop (fun m F D' L' => ∃ (k : Nat), m = 3 - k + 0 ∧ k ≤ 3 ∧ F 0 = .slice (some ⟨p, o, none⟩) ops.length cap ∧ F 4 = .pointer (some ⟨bk, 0, none⟩) ∧ F 5 = .int .i64 (i : Int) ∧ F 7 = .int .i64 (t : Int) ∧ F 8 = .int .i64 (u : Int) ∧ F 9 = .int .i64 (k : Int) ∧ D' = [] ∧ s1 :: s2 :: [] = L') ⟨_, ⟨0, rfl, by omega, rfl, rfl, rfl, rfl, rfl, rfl, rfl, rfl⟩⟩ ?_
            rintro m F D' L' ⟨k, rfl, hk3, h0, h4, h5, h7, h8, h9, rfl, rfl⟩
            refine C.fix (d := 0) h0 ?_
            refine C.fix (d := 4) h4 ?_
            refine C.fix (d := 5) h5 ?_
            refine C.fix (d := 7) h7 ?_
            refine C.fix (d := 8) h8 ?_
            refine C.fix (d := 9) h9 ?_
            refine C.seq ?_
            refine C.seq ?_
            refine C.region ?_
            refine G.moveI rfl trivial rfl rfl rfl ?_
            refine G.bin rfl trivial rfl rfl rfl rfl rfl ?_
            refine G.moveB rfl trivial rfl rfl rfl ?_
            refine G.fork (t := 73) _ rfl ?_ ?_
            · intro hg73
              refine G.moveI rfl ⟨_, rfl, rfl, rfl⟩ rfl rfl rfl ?_
              refine G.moveI rfl ⟨_, rfl, rfl, rfl⟩ rfl rfl rfl ?_
              refine G.bin rfl ⟨_, rfl, rfl, rfl⟩ rfl rfl rfl rfl rfl ?_
              first | refine G.pickT rfl trivial rfl rfl rfl rfl ?_ | refine G.pickF rfl trivial rfl rfl rfl rfl ?_
              refine G.nil ?_
              refine C.cond _ rfl ?_ ?_
              · intro hc6
                refine C.skip ?_
                refine C.seq ?_
                refine C.block ?_
                refine C.seq ?_
                refine C.region ?_
                refine G.moveI rfl trivial rfl rfl rfl ?_
                refine G.convInt rfl trivial rfl rfl Try.underlying3 Try.underlying5 rfl ?_
                refine G.bin rfl trivial rfl rfl rfl rfl rfl ?_
                refine G.byte (d := 82) ⟨_, rfl⟩ ?_
                intro c82
                refine G.buildSliceL (cs := [.int .u8 (c82.toNat : Int)]) (zs := [(.int .u8 0)]) rfl trivial rfl rfl Try.underlying43 I5 rfl (by kernel_rfl) rfl rfl ?_
                intro b83
                refine G.bytesStr [c82] rfl trivial rfl rfl Try.underlying43 Try.underlying5 Try.underlying9 rfl rfl (Rd.row0 .here) ?_
                refine G.assignT rfl trivial rfl rfl rfl ?_
                refine G.less (L' := s1 :: s2 :: []) (fun _ h => h.fewer (by simp)) ?_
                refine G.nil ?_
                refine C.seq ?_
                refine C.region ?_
                refine G.moveP rfl trivial rfl rfl rfl ?_
                refine G.moveI rfl trivial rfl rfl rfl ?_
                refine G.moveT rfl trivial rfl rfl rfl ?_
                refine G.call E18 rfl rfl trivial rfl rfl (lhas_spec W0 _ bk ls s1 s2 hk (by omega) (t : Int) 2 (strB [c82])) rfl ?_
                rintro e L2 ⟨rfl, rfl⟩
                refine G.moveB rfl trivial rfl rfl rfl ?_
                refine G.forkB (t := 89) _ rfl ?_ ?_
                · intro hg89
                  refine G.moveP rfl ⟨_, rfl, rfl, rfl⟩ rfl rfl rfl ?_
                  refine G.moveI rfl ⟨_, rfl, rfl, rfl⟩ rfl rfl rfl ?_
                  refine G.moveT rfl ⟨_, rfl, rfl, rfl⟩ rfl rfl rfl ?_
                  refine G.call E18 rfl rfl ⟨_, rfl, rfl, rfl⟩ rfl rfl (lhas_spec W0 _ bk ls s1 s2 hk (by omega) (u : Int) 2 (strB [c82])) rfl ?_
                  rintro e L2 ⟨rfl, rfl⟩
                  rw [apart_no hap hg89 hc6 2 _ (.inr ⟨.inr rfl, rfl⟩)]
                  refine G.moveB rfl ⟨_, rfl, rfl, rfl⟩ rfl rfl rfl ?_
                  refine G.moveP rfl ⟨_, rfl, rfl, rfl⟩ rfl rfl rfl ?_
                  refine G.moveI rfl ⟨_, rfl, rfl, rfl⟩ rfl rfl rfl ?_
                  refine G.moveT rfl ⟨_, rfl, rfl, rfl⟩ rfl rfl rfl ?_
                  refine G.call E18 rfl rfl ⟨_, rfl, rfl, rfl⟩ rfl rfl (lhas_spec W0 _ bk ls s1 s2 hk (by omega) (u : Int) 1 (strB [c82])) rfl ?_
                  rintro e L2 ⟨rfl, rfl⟩
                  rw [apart_no hap hg89 hc6 1 _ (.inr ⟨.inl rfl, rfl⟩)]
                  first | refine G.pickT rfl ⟨_, rfl, rfl, rfl⟩ rfl rfl rfl rfl ?_ | refine G.pickF rfl ⟨_, rfl, rfl, rfl⟩ rfl rfl rfl rfl ?_
                  refine G.moveB rfl ⟨_, rfl, rfl, rfl⟩ rfl rfl rfl ?_
                  refine G.moveP rfl ⟨_, rfl, rfl, rfl⟩ rfl rfl rfl ?_
                  refine G.moveI rfl ⟨_, rfl, rfl, rfl⟩ rfl rfl rfl ?_
                  refine G.call E18 rfl rfl ⟨_, rfl, rfl, rfl⟩ rfl rfl (lhas_spec W0 _ bk ls s1 s2 hk (by omega) (u : Int) 3 ByteArray.empty) rfl ?_
                  rintro e L2 ⟨rfl, rfl⟩
                  rw [apart_no hap hg89 hc6 3 _ (.inl rfl)]
                  first | refine G.pickT rfl ⟨_, rfl, rfl, rfl⟩ rfl rfl rfl rfl ?_ | refine G.pickF rfl ⟨_, rfl, rfl, rfl⟩ rfl rfl rfl rfl ?_
                  first | refine G.pickT rfl trivial rfl rfl rfl rfl ?_ | refine G.pickF rfl trivial rfl rfl rfl rfl ?_
                  refine G.nil ?_
                  refine C.condF rfl ?_
                  refine C.skip ?_
                  refine C.region ?_
                  refine G.moveI rfl trivial rfl rfl rfl ?_
                  refine G.addN (j := 1) rfl trivial rfl rfl rfl rfl (by omega) ?_
                  refine G.assignI rfl trivial rfl rfl rfl ?_
                  refine G.nil ?_
                  exact ⟨3 - (k + 1) + 0, by omega, k + 1, rfl, by omega, rfl, rfl, rfl, rfl, rfl, rfl, rfl, rfl⟩
                · intro hg89
                  refine G.skip rfl rfl rfl rfl rfl rfl ?_
                  refine G.skip rfl rfl rfl rfl rfl rfl ?_
                  refine G.skip rfl rfl rfl rfl rfl rfl ?_
                  refine G.skip rfl rfl rfl rfl rfl rfl ?_
                  refine G.skip rfl rfl rfl rfl rfl rfl ?_
                  refine G.skipU rfl rfl rfl rfl rfl rfl ?_
                  refine G.skipU rfl rfl rfl rfl rfl rfl ?_
                  refine G.skipU rfl rfl rfl rfl rfl rfl ?_
                  refine G.skipU rfl rfl rfl rfl rfl rfl ?_
                  refine G.skip rfl rfl rfl rfl rfl rfl ?_
                  refine G.skip rfl rfl rfl rfl rfl rfl ?_
                  refine G.skipU rfl rfl rfl rfl rfl rfl ?_
                  refine G.skipU rfl rfl rfl rfl rfl rfl ?_
                  refine G.skipU rfl rfl rfl rfl rfl rfl ?_
                  refine G.skip rfl rfl rfl rfl rfl rfl ?_
                  first | refine G.pickT rfl trivial rfl rfl rfl rfl ?_ | refine G.pickF rfl trivial rfl rfl rfl rfl ?_
                  refine G.nil ?_
                  refine C.condF rfl ?_
                  refine C.skip ?_
                  refine C.region ?_
                  refine G.moveI rfl trivial rfl rfl rfl ?_
                  refine G.addN (j := 1) rfl trivial rfl rfl rfl rfl (by omega) ?_
                  refine G.assignI rfl trivial rfl rfl rfl ?_
                  refine G.nil ?_
                  exact ⟨3 - (k + 1) + 0, by omega, k + 1, rfl, by omega, rfl, rfl, rfl, rfl, rfl, rfl, rfl, rfl⟩
              · intro hc6
                refine C.exit ?_
                refine C.region ?_
                refine G.moveI rfl trivial rfl rfl rfl ?_
                refine G.addN (j := 1) rfl trivial rfl rfl rfl rfl (by omega) ?_
                refine G.assignI rfl trivial rfl rfl rfl ?_
                refine G.nil ?_
                exact ⟨5 - (u + 1) + 0, by omega, u + 1, rfl, by omega, rfl, rfl, rfl, rfl, rfl, rfl, rfl⟩
            · intro hg73
              refine G.skip rfl rfl rfl rfl rfl rfl ?_
              refine G.skip rfl rfl rfl rfl rfl rfl ?_
              refine G.skip rfl rfl rfl rfl rfl rfl ?_
              first | refine G.pickT rfl trivial rfl rfl rfl rfl ?_ | refine G.pickF rfl trivial rfl rfl rfl rfl ?_
              refine G.nil ?_
              refine C.condF rfl ?_
              refine C.exit ?_
              refine C.region ?_
              refine G.moveI rfl trivial rfl rfl rfl ?_
              refine G.addN (j := 1) rfl trivial rfl rfl rfl rfl (by omega) ?_
              refine G.assignI rfl trivial rfl rfl rfl ?_
              refine G.nil ?_
              exact ⟨5 - (u + 1) + 0, by omega, u + 1, rfl, by omega, rfl, rfl, rfl, rfl, rfl, rfl, rfl⟩
          · intro hc5
            refine C.exit ?_
            refine C.region ?_
            refine G.moveI rfl trivial rfl rfl rfl ?_
            refine G.addN (j := 1) rfl trivial rfl rfl rfl rfl (by omega) ?_
            refine G.assignI rfl trivial rfl rfl rfl ?_
            refine G.nil ?_
            exact ⟨5 - (t + 1) + 0, by omega, t + 1, rfl, by omega, rfl, rfl, rfl, rfl, rfl, rfl⟩
        · intro hc4
          refine C.exit ?_
          refine C.region ?_
          refine G.moveI rfl trivial rfl rfl rfl ?_
          refine G.addN (j := 1) rfl trivial rfl rfl rfl rfl (by omega) ?_
          refine G.assignI rfl trivial rfl rfl rfl ?_
          refine G.nil ?_
          exact ⟨ops.length - (i + 1) + 0, by omega, i + 1, ls, s1, s2, rfl, by omega, by omega, hln, hap, hk, rfl, rfl, rfl, rfl, rfl⟩
    · intro hc1
      refine C.exit ?_
      refine C.seq ?_
      refine C.region ?_
      refine G.assignB rfl trivial rfl rfl rfl ?_
      refine G.nil ?_
      refine C.ret ?_
      -- end g19Tc1F
      exact ⟨rfl, _, Res.of (rs := [.tmp 2]) rfl rfl, rfl⟩
  · intro hg19
    refine G.skip rfl rfl rfl rfl rfl rfl ?_
    refine G.skip rfl rfl rfl rfl rfl rfl ?_
    first | refine G.pickT rfl trivial rfl rfl rfl rfl ?_ | refine G.pickF rfl trivial rfl rfl rfl rfl ?_
    refine G.nil ?_
    refine C.condF rfl ?_
    refine C.exit ?_
    refine C.seq ?_
    refine C.region ?_
    refine G.assignB rfl trivial rfl rfl rfl ?_
    refine G.nil ?_
    refine C.ret ?_
    -- end g19F
    exact ⟨rfl, _, Res.of (rs := [.tmp 2]) rfl rfl, rfl⟩
end laws
end Go.Proofs.Ytkiiafmcfdfbhaa
