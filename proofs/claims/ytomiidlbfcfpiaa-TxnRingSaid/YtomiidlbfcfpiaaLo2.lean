/-
  Locks: New, Len, Has, Free, Lock walked.
-/
import Derived.Test.YtomiidlbfcfpiaaLo1
import Derived.Test.YtomiidlbfcfpiaaCo1
namespace Go.Proofs.Ytomiidlbfcfpiaa
open Go Go.SL Go.RowKit Go.Sort

/-- who stands against it -/
def onL (x : One) (ls : List One) : List Int := (ls.filter (againstB x)).map (·.1)
theorem onL_take {x : One} {ls : List One} {j : Nat} (h : j < ls.length) : onL x (ls.take (j + 1)) = if againstB x ls[j] = true then onL x (ls.take j) ++ [ls[j].1] else onL x (ls.take j) := by
  unfold onL
  rw [List.take_succ_eq_append_getElem h, List.filter_append]
  by_cases e : againstB x ls[j] = true <;> simp [e]
theorem onL_le (x : One) (ls : List One) : (onL x ls).length ≤ ls.length := by unfold onL; rw [List.length_map]; exact List.length_filter_le _ _
def refused (x : One) (ls : List One) : List Int := compactL (sortL (onL x ls))
theorem refused_nil {x : One} {ls : List One} (h : onL x ls = []) : refused x ls = [] := by
  unfold refused
  rw [h]
  simp [sortL, compactL]
def locked (x : One) (ls : List One) : List One := if onL x ls = [] then (if inL x ls then ls else ls ++ [x]) else ls
section lock
variable (W0 : World) (L0 : List Seg) (bk : Nat)
theorem new_spec (L : List Seg) : FnS Try.prog W0 21 #[] L (fun e L' => ∃ bk s1 s2, LkIs bk [] s1 s2 ∧ L' = s1 :: s2 :: L ∧ e = .returned (.pointer (some ⟨bk, 0, none⟩))) := by
  refine FnS.of (args := []) Try.func21 rfl rfl ?_
  refine C.seq ?_
  refine C.region ?_
  refine G.assignP rfl trivial rfl rfl rfl ?_
  refine G.nil ?_
  refine C.seq ?_
  refine C.region ?_
  refine G.buildL (cs := [.slice none 0 0]) rfl trivial rfl rfl Try.underlying67 I67 B67 rfl rfl ?_
  refine G.boxG rfl trivial rfl rfl rfl ?_
  intro b2
  refine G.assignP rfl trivial rfl rfl rfl ?_
  refine G.nil ?_
  refine C.less (fun _ h => h.empty) ?_
  refine C.ret ?_
  -- end 
  exact ⟨rfl, _, Res.of (rs := [.tmp 0]) rfl rfl, b2, [], _, ⟨_, OwnS.nil _ _, rfl⟩, rfl, rfl⟩
theorem len_nil (L : List Seg) : FnS Try.prog W0 49 #[.pointer none] L (fun e L' => L' = L ∧ e = .returned (.int .i64 0)) := by
  refine FnS.of (args := [.pointer none]) Try.func49 rfl rfl ?_
  refine C.seq ?_
  refine C.region ?_
  refine G.assignI rfl trivial rfl rfl rfl ?_
  refine G.nil ?_
  refine C.seq ?_
  refine C.seq ?_
  refine C.region ?_
  refine G.moveP rfl trivial rfl rfl rfl ?_
  refine G.ptrEq rfl trivial rfl rfl Try.underlying49 rfl rfl ?_
  refine G.nil ?_
  refine C.condT rfl ?_
  refine C.seq ?_
  refine C.region ?_
  refine G.assignI rfl trivial rfl rfl rfl ?_
  refine G.nil ?_
  refine C.ret ?_
  -- end 
  exact ⟨rfl, _, Res.of (rs := [.tmp 2]) rfl rfl, rfl, rfl⟩
theorem llen_spec (ls : List One) (s1 s2 : Seg) (h : LkIs bk ls s1 s2) : FnS Try.prog W0 49 #[.pointer (some ⟨bk, 0, none⟩)] (s1 :: s2 :: L0) (fun e L' => L' = s1 :: s2 :: L0 ∧ e = .returned (.int .i64 (ls.length : Int))) := by
  obtain ⟨v, hv, rfl⟩ := h
  obtain ⟨a, c, rfl, _⟩ := hv.form
  refine FnS.of (args := [.pointer (some ⟨bk, 0, none⟩)]) Try.func49 rfl rfl ?_
  refine C.seq ?_
  refine C.region ?_
  refine G.assignI rfl trivial rfl rfl rfl ?_
  refine G.nil ?_
  refine C.seq ?_
  refine C.seq ?_
  refine C.region ?_
  refine G.moveP rfl trivial rfl rfl rfl ?_
  refine G.ptrEq rfl trivial rfl rfl Try.underlying49 rfl rfl ?_
  refine G.nil ?_
  refine C.condF rfl ?_
  refine C.skip ?_
  refine C.seq ?_
  refine C.region ?_
  refine G.moveP rfl trivial rfl rfl rfl ?_
  first | refine G.nilCheckP rfl trivial rfl rfl rfl ?_ | refine G.nilCheckF rfl trivial rfl rfl rfl ?_
  refine G.fieldAddr rfl trivial rfl rfl Try.underlying67 rfl I65 rfl rfl ?_
  refine G.loadAt (by first | exact .here | exact .next .here | exact .next (.next .here) | exact .next (.next (.next .here)) | exact .next (.next (.next (.next .here))) | exact .next (.next (.next (.next (.next .here)))) | exact .next (.next (.next (.next (.next (.next .here))))) | exact .next (.next (.next (.next (.next (.next (.next .here)))))) | exact .in1 | exact .next .in1 | exact .next (.next .in1) | exact .next (.next (.next .in1)) | exact .next (.next (.next (.next .in1))) | exact .in2 | exact .next .in2 | exact .next (.next .in2) | exact .next (.next (.next .in2)) | exact .next (.next (.next (.next .in2))) | exact .app .here | exact .app (.next .here) | exact .app (.next (.next .here)) | exact .app (.next (.next (.next .here))) | exact .app (.next (.next (.next (.next .here)))) | exact .app (.next (.next (.next (.next (.next .here))))) | exact .app (.next (.next (.next (.next (.next (.next .here)))))) | exact .app (.next (.next (.next (.next (.next (.next (.next .here))))))) | exact .app .in1 | exact .app .in2 | exact .app (.next .in1) | exact .next (.app .in1) | exact .next (.next (.app .in1)) | exact .next (.app .here) | exact .next (.next (.app .here)) | exact .next (.next (.next (.app .here))) | exact .next (.next (.next (.next (.app .here))))) rfl trivial rfl rfl Try.underlying65 rfl rfl (by rfl) ?_
  refine G.lenSlice rfl trivial rfl rfl Try.underlying65 rfl ?_
  refine G.assignI rfl trivial rfl rfl rfl ?_
  refine G.nil ?_
  refine C.ret ?_
  -- end 
  exact ⟨rfl, _, Res.of (rs := [.tmp 2]) rfl rfl, rfl, rfl⟩
theorem free_nil (L : List Seg) (t : Int) : FnS Try.prog W0 32 #[.pointer none, .int .i64 t] L (fun e L' => L' = L ∧ e = .returned (.int .i64 0)) := by
  refine FnS.of (args := [.pointer none, .int .i64 t]) Try.func32 rfl rfl ?_
  refine C.seq ?_
  refine C.region ?_
  refine G.boxI rfl trivial rfl rfl rfl ?_
  intro b3
  refine G.assignI rfl trivial rfl rfl rfl ?_
  refine G.nil ?_
  refine C.seq ?_
  refine C.region ?_
  refine G.moveP rfl trivial rfl rfl rfl ?_
  refine G.call E49 rfl rfl trivial rfl rfl (len_nil W0 _) rfl ?_
  rintro e L2 ⟨rfl, rfl⟩
  refine G.assignI rfl trivial rfl rfl rfl ?_
  refine G.nil ?_
  refine C.seq ?_
  refine C.seq ?_
  refine C.region ?_
  refine G.moveP rfl trivial rfl rfl rfl ?_
  refine G.ptrNe rfl trivial rfl rfl Try.underlying49 rfl rfl ?_
  refine G.nil ?_
  refine C.condF rfl ?_
  refine C.skip ?_
  refine C.seq ?_
  refine C.region ?_
  refine G.moveI rfl trivial rfl rfl rfl ?_
  refine G.moveP rfl trivial rfl rfl rfl ?_
  refine G.call E49 rfl rfl trivial rfl rfl (len_nil W0 _) rfl ?_
  rintro e L2 ⟨rfl, rfl⟩
  refine G.sub rfl trivial rfl rfl rfl rfl (by omega) ?_
  refine G.assignI rfl trivial rfl rfl rfl ?_
  refine G.nil ?_
  refine C.less (fun _ h => h.tail) ?_
  refine C.ret ?_
  -- end 
  exact ⟨rfl, _, Res.of (rs := [.tmp 4]) rfl rfl, rfl, rfl⟩
theorem free_spec (ls : List One) (s1 s2 : Seg) (h : LkIs bk ls s1 s2) (hl : ls.length ≤ 1000) (t : Int) : FnS Try.prog W0 32 #[.pointer (some ⟨bk, 0, none⟩), .int .i64 t] (s1 :: s2 :: L0) (fun e L' => ∃ s1' s2', LkIs bk (others t ls) s1' s2' ∧ L' = s1' :: s2' :: L0 ∧ e = .returned (.int .i64 ((ls.length - (others t ls).length : Nat) : Int))) := by
  have hle := others_le t ls
  refine FnS.of (args := [.pointer (some ⟨bk, 0, none⟩), .int .i64 t]) Try.func32 rfl rfl ?_
  refine C.seq ?_
  refine C.region ?_
  refine G.boxI rfl trivial rfl rfl rfl ?_
  intro b3
  refine G.assignI rfl trivial rfl rfl rfl ?_
  refine G.nil ?_
  refine C.seq ?_
  refine C.region ?_
  refine G.moveP rfl trivial rfl rfl rfl ?_
  refine G.call E49 rfl rfl trivial rfl rfl (FnS.perm (llen_spec W0 ([(b3, .row [.int .i64 t] 2 1)] :: L0) bk ls s1 s2 h) P3.symm) rfl ?_
  rintro e L2 ⟨rfl, rfl⟩
  refine G.assignI rfl trivial rfl rfl rfl ?_
  obtain ⟨v, hv, rfl⟩ := h
  obtain ⟨a, c, rfl, _⟩ := hv.form
  refine G.nil ?_
  refine C.seq ?_
  refine C.seq ?_
  refine C.region ?_
  refine G.moveP rfl trivial rfl rfl rfl ?_
  refine G.ptrNe rfl trivial rfl rfl Try.underlying49 rfl rfl ?_
  refine G.nil ?_
  refine C.condT rfl ?_
  refine C.region ?_
  refine G.moveP rfl trivial rfl rfl rfl ?_
  refine G.moveP rfl trivial rfl rfl rfl ?_
  first | refine G.nilCheckP rfl trivial rfl rfl rfl ?_ | refine G.nilCheckF rfl trivial rfl rfl rfl ?_
  refine G.fieldAddr rfl trivial rfl rfl Try.underlying67 rfl I65 rfl rfl ?_
  refine G.loadAt (by first | exact .here | exact .next .here | exact .next (.next .here) | exact .next (.next (.next .here)) | exact .next (.next (.next (.next .here))) | exact .next (.next (.next (.next (.next .here)))) | exact .next (.next (.next (.next (.next (.next .here))))) | exact .next (.next (.next (.next (.next (.next (.next .here)))))) | exact .in1 | exact .next .in1 | exact .next (.next .in1) | exact .next (.next (.next .in1)) | exact .next (.next (.next (.next .in1))) | exact .in2 | exact .next .in2 | exact .next (.next .in2) | exact .next (.next (.next .in2)) | exact .next (.next (.next (.next .in2))) | exact .app .here | exact .app (.next .here) | exact .app (.next (.next .here)) | exact .app (.next (.next (.next .here))) | exact .app (.next (.next (.next (.next .here)))) | exact .app (.next (.next (.next (.next (.next .here))))) | exact .app (.next (.next (.next (.next (.next (.next .here)))))) | exact .app (.next (.next (.next (.next (.next (.next (.next .here))))))) | exact .app .in1 | exact .app .in2 | exact .app (.next .in1) | exact .next (.app .in1) | exact .next (.next (.app .in1)) | exact .next (.app .here) | exact .next (.next (.app .here)) | exact .next (.next (.next (.app .here))) | exact .next (.next (.next (.next (.app .here))))) rfl trivial rfl rfl Try.underlying65 rfl rfl (by rfl) ?_
  refine G.makeFuncL rfl trivial rfl rfl rfl rfl ?_
  refine G.call E50 rfl rfl trivial rfl rfl (FnS.perm (delete_spec W0 ([(bk, .row [.slice a ls.length c] 67 1)] :: L0) _ ls s1 hv hl b3 t) P13) rfl ?_
  rintro e L2 ⟨v1, s3, hv1, rfl, rfl⟩
  obtain ⟨a1, c1, rfl, _⟩ := hv1.form
  first | refine G.nilCheckP rfl trivial rfl rfl rfl ?_ | refine G.nilCheckF rfl trivial rfl rfl rfl ?_
  refine G.fieldAddr rfl trivial rfl rfl Try.underlying67 rfl I65 rfl rfl ?_
  refine G.store (v := .slice _ _ _) (by first | exact .here | exact .next .here | exact .next (.next .here) | exact .next (.next (.next .here)) | exact .next (.next (.next (.next .here))) | exact .next (.next (.next (.next (.next .here)))) | exact .next (.next (.next (.next (.next (.next .here))))) | exact .next (.next (.next (.next (.next (.next (.next .here)))))) | exact .in1 | exact .next .in1 | exact .next (.next .in1) | exact .next (.next (.next .in1)) | exact .next (.next (.next (.next .in1))) | exact .in2 | exact .next .in2 | exact .next (.next .in2) | exact .next (.next (.next .in2)) | exact .next (.next (.next (.next .in2))) | exact .app .here | exact .app (.next .here) | exact .app (.next (.next .here)) | exact .app (.next (.next (.next .here))) | exact .app (.next (.next (.next (.next .here)))) | exact .app (.next (.next (.next (.next (.next .here))))) | exact .app (.next (.next (.next (.next (.next (.next .here)))))) | exact .app (.next (.next (.next (.next (.next (.next (.next .here))))))) | exact .app .in1 | exact .app .in2 | exact .app (.next .in1) | exact .next (.app .in1) | exact .next (.next (.app .in1)) | exact .next (.app .here) | exact .next (.next (.app .here)) | exact .next (.next (.next (.app .here))) | exact .next (.next (.next (.next (.app .here))))) rfl trivial rfl I65 rfl rfl rfl (by first | decide | (simp; done) | (simp; omega)) _ (by first | (simp only [List.set_cons_succ, List.set_cons_zero]; done) | (simp only [List.set_cons_succ, List.set_cons_zero]; exact rfl) | exact rfl) ?_
  refine G.nil ?_
  refine C.seq ?_
  refine C.region ?_
  refine G.moveI rfl trivial rfl rfl rfl ?_
  refine G.moveP rfl trivial rfl rfl rfl ?_
  refine G.call E49 rfl rfl trivial rfl rfl (FnS.perm (llen_spec W0 ([(b3, .row [.int .i64 t] 2 1)] :: L0) bk (others t ls) s3 [(bk, .row [.slice a1 (others t ls).length c1] 67 1)] ⟨_, hv1, rfl⟩) P13) rfl ?_
  rintro e L2 ⟨rfl, rfl⟩
  refine G.subN rfl trivial rfl rfl rfl rfl (by omega) ?_
  refine G.assignI rfl trivial rfl rfl rfl ?_
  refine G.nil ?_
  refine C.less (fun _ h => (h.of_flat P3).tail) ?_
  refine C.ret ?_
  -- end 
  exact ⟨rfl, _, Res.of (rs := [.tmp 4]) rfl rfl, _, _, ⟨_, hv1, rfl⟩, rfl, rfl⟩
theorem lock_nil (L : List Seg) (t m : Int) (k : ByteArray) : FnS Try.prog W0 26 #[.pointer none, .int .i64 t, .int .i64 m, .string k] L (fun e L' => L' = L ∧ e = .returned (.tuple #[.slice none 0 0, .bool false])) := by
  refine FnS.of (args := [.pointer none, .int .i64 t, .int .i64 m, .string k]) Try.func26 rfl rfl ?_
  refine C.seq ?_
  refine C.region ?_
  refine G.assignS rfl trivial rfl rfl rfl ?_
  refine G.assignB rfl trivial rfl rfl rfl ?_
  refine G.nil ?_
  refine C.seq ?_
  refine C.seq ?_
  refine C.region ?_
  refine G.moveP rfl trivial rfl rfl rfl ?_
  refine G.ptrEq rfl trivial rfl rfl Try.underlying49 rfl rfl ?_
  refine G.moveB rfl trivial rfl rfl rfl ?_
  refine G.skip rfl rfl rfl rfl rfl rfl ?_
  refine G.skip rfl rfl rfl rfl rfl rfl ?_
  first | refine G.pickT rfl trivial rfl rfl rfl rfl ?_ | refine G.pickF rfl trivial rfl rfl rfl rfl ?_
  refine G.moveB rfl trivial rfl rfl rfl ?_
  refine G.skip rfl rfl rfl rfl rfl rfl ?_
  refine G.skip rfl rfl rfl rfl rfl rfl ?_
  first | refine G.pickT rfl trivial rfl rfl rfl rfl ?_ | refine G.pickF rfl trivial rfl rfl rfl rfl ?_
  refine G.nil ?_
  refine C.condT rfl ?_
  refine C.seq ?_
  refine C.region ?_
  refine G.assignS rfl trivial rfl rfl rfl ?_
  refine G.assignB rfl trivial rfl rfl rfl ?_
  refine G.nil ?_
  refine C.ret ?_
  -- end 
  exact ⟨rfl, _, Res.of (rs := [.tmp 8, .tmp 9]) rfl rfl, rfl, rfl⟩
theorem lock_form (L : List Seg) (t m : Int) (k : ByteArray) (hm : ¬ (1 ≤ m ∧ m ≤ 3)) : FnS Try.prog W0 26 #[.pointer (some ⟨bk, 0, none⟩), .int .i64 t, .int .i64 m, .string k] L (fun e L' => L' = L ∧ e = .returned (.tuple #[.slice none 0 0, .bool false])) := by
  refine FnS.of (args := [.pointer (some ⟨bk, 0, none⟩), .int .i64 t, .int .i64 m, .string k]) Try.func26 rfl rfl ?_
  refine C.seq ?_
  refine C.region ?_
  refine G.assignS rfl trivial rfl rfl rfl ?_
  refine G.assignB rfl trivial rfl rfl rfl ?_
  refine G.nil ?_
  refine C.seq ?_
  refine C.seq ?_
  refine C.region ?_
  refine G.moveP rfl trivial rfl rfl rfl ?_
  refine G.ptrEq rfl trivial rfl rfl Try.underlying49 rfl rfl ?_
  refine G.moveB rfl trivial rfl rfl rfl ?_
  refine G.moveI rfl ⟨_, rfl, rfl, rfl⟩ rfl rfl rfl ?_
  refine G.bin rfl ⟨_, rfl, rfl, rfl⟩ rfl rfl rfl rfl rfl ?_
  first | refine G.pickT rfl trivial rfl rfl rfl rfl ?_ | refine G.pickF rfl trivial rfl rfl rfl rfl ?_
  refine G.moveB rfl trivial rfl rfl rfl ?_
  refine G.fork (t := 20) _ rfl ?_ ?_
  · intro hg20
    refine G.skip rfl rfl rfl rfl rfl rfl ?_
    refine G.skip rfl rfl rfl rfl rfl rfl ?_
    first | refine G.pickT rfl trivial rfl rfl rfl rfl ?_ | refine G.pickF rfl trivial rfl rfl rfl rfl ?_
    refine G.nil ?_
    refine C.condT rfl ?_
    refine C.seq ?_
    refine C.region ?_
    refine G.assignS rfl trivial rfl rfl rfl ?_
    refine G.assignB rfl trivial rfl rfl rfl ?_
    refine G.nil ?_
    refine C.ret ?_
    -- end g20T
    exact ⟨rfl, _, Res.of (rs := [.tmp 8, .tmp 9]) rfl rfl, rfl, rfl⟩
  · intro hg20
    refine G.moveI rfl ⟨_, rfl, rfl, rfl⟩ rfl rfl rfl ?_
    refine G.bin rfl ⟨_, rfl, rfl, rfl⟩ rfl rfl rfl rfl rfl ?_
    first | refine G.pickT rfl trivial rfl rfl rfl rfl ?_ | refine G.pickF rfl trivial rfl rfl rfl rfl ?_
    refine G.nil ?_
    refine C.yes rfl (by omega) ?_
    refine C.seq ?_
    refine C.region ?_
    refine G.assignS rfl trivial rfl rfl rfl ?_
    refine G.assignB rfl trivial rfl rfl rfl ?_
    refine G.nil ?_
    refine C.ret ?_
    -- end g20F
    exact ⟨rfl, _, Res.of (rs := [.tmp 8, .tmp 9]) rfl rfl, rfl, rfl⟩
theorem lock_spec (ls : List One) (s1 s2 : Seg) (h : LkIs bk ls s1 s2) (hl : ls.length ≤ 900) (t m : Int) (k : ByteArray) (hm : 1 ≤ m ∧ m ≤ 3) : FnS Try.prog W0 26 #[.pointer (some ⟨bk, 0, none⟩), .int .i64 t, .int .i64 m, .string k] (s1 :: s2 :: L0)
    (fun e L' => ∃ v sv s1' s2', LkIs bk (locked (lockOf t m k) ls) s1' s2' ∧ OwnS v (refused (lockOf t m k) ls).length ((refused (lockOf t m k) ls).map (Value.int .i64)) 2 1 sv ∧ L' = sv :: s1' :: s2' :: L0 ∧ e = .returned (.tuple #[v, .bool (decide (onL (lockOf t m k) ls = []))])) := by
  obtain ⟨v, hv, rfl⟩ := h
  obtain ⟨a, c, rfl, _⟩ := hv.form
  generalize hx : lockOf t m k = x
  refine FnS.of (args := [.pointer (some ⟨bk, 0, none⟩), .int .i64 t, .int .i64 m, .string k]) Try.func26 rfl rfl ?_
  refine C.seq ?_
  refine C.region ?_
  refine G.assignS rfl trivial rfl rfl rfl ?_
  refine G.assignB rfl trivial rfl rfl rfl ?_
  refine G.nil ?_
  refine C.seq ?_
  refine C.seq ?_
  refine C.region ?_
  refine G.moveP rfl trivial rfl rfl rfl ?_
  refine G.ptrEq rfl trivial rfl rfl Try.underlying49 rfl rfl ?_
  refine G.moveB rfl trivial rfl rfl rfl ?_
  refine G.moveI rfl ⟨_, rfl, rfl, rfl⟩ rfl rfl rfl ?_
  refine G.bin rfl ⟨_, rfl, rfl, rfl⟩ rfl rfl rfl rfl rfl ?_
  first | refine G.pickT rfl trivial rfl rfl rfl rfl ?_ | refine G.pickF rfl trivial rfl rfl rfl rfl ?_
  refine G.moveB rfl trivial rfl rfl rfl ?_
  refine G.no (t := 20) rfl (by omega) ?_
  refine G.moveI rfl ⟨_, rfl, rfl, rfl⟩ rfl rfl rfl ?_
  refine G.bin rfl ⟨_, rfl, rfl, rfl⟩ rfl rfl rfl rfl rfl ?_
  first | refine G.pickT rfl trivial rfl rfl rfl rfl ?_ | refine G.pickF rfl trivial rfl rfl rfl rfl ?_
  refine G.nil ?_
  refine C.no rfl (by omega) ?_
  refine C.skip ?_
  refine C.seq ?_
  refine C.region ?_
  refine G.moveI rfl trivial rfl rfl rfl ?_
  refine G.moveI rfl trivial rfl rfl rfl ?_
  refine G.moveT rfl trivial rfl rfl rfl ?_
  refine G.call E40 rfl rfl trivial rfl rfl (of_spec W0 _ t m k) rfl ?_
  rintro e L2 ⟨rfl, rfl⟩
  rw [hx]
  refine G.allocC (cs := [(.int .i64 0), (.int .i64 0), (.string ByteArray.empty)]) rfl trivial rfl rfl I75 rfl ?_
  intro b10
  refine G.stRow (by first | exact .here | exact .next .here | exact .next (.next .here) | exact .next (.next (.next .here)) | exact .next (.next (.next (.next .here))) | exact .next (.next (.next (.next (.next .here)))) | exact .next (.next (.next (.next (.next (.next .here))))) | exact .next (.next (.next (.next (.next (.next (.next .here)))))) | exact .in1 | exact .next .in1 | exact .next (.next .in1) | exact .next (.next (.next .in1)) | exact .next (.next (.next (.next .in1))) | exact .in2 | exact .next .in2 | exact .next (.next .in2) | exact .next (.next (.next .in2)) | exact .next (.next (.next (.next .in2))) | exact .app .here | exact .app (.next .here) | exact .app (.next (.next .here)) | exact .app (.next (.next (.next .here))) | exact .app (.next (.next (.next (.next .here)))) | exact .app (.next (.next (.next (.next (.next .here))))) | exact .app (.next (.next (.next (.next (.next (.next .here)))))) | exact .app (.next (.next (.next (.next (.next (.next (.next .here))))))) | exact .app .in1 | exact .app .in2 | exact .app (.next .in1) | exact .next (.app .in1) | exact .next (.next (.app .in1)) | exact .next (.app .here) | exact .next (.next (.app .here)) | exact .next (.next (.next (.app .here))) | exact .next (.next (.next (.next (.app .here))))) rfl trivial rfl I75 rfl rfl rfl (by rfl) (by first | exact oneC_ok _ | simp [cellsOk]) ?_
  refine G.nil ?_
  refine C.seq ?_
  refine C.region ?_
  refine G.assignS rfl trivial rfl rfl rfl ?_
  refine G.nil ?_
  refine C.seq ?_
  refine C.seq ?_
  refine C.region ?_
  refine G.moveP rfl trivial rfl rfl rfl ?_
  first | refine G.nilCheckP rfl trivial rfl rfl rfl ?_ | refine G.nilCheckF rfl trivial rfl rfl rfl ?_
  refine G.fieldAddr rfl trivial rfl rfl Try.underlying67 rfl I65 rfl rfl ?_
  refine G.loadAt (by first | exact .here | exact .next .here | exact .next (.next .here) | exact .next (.next (.next .here)) | exact .next (.next (.next (.next .here))) | exact .next (.next (.next (.next (.next .here)))) | exact .next (.next (.next (.next (.next (.next .here))))) | exact .next (.next (.next (.next (.next (.next (.next .here)))))) | exact .in1 | exact .next .in1 | exact .next (.next .in1) | exact .next (.next (.next .in1)) | exact .next (.next (.next (.next .in1))) | exact .in2 | exact .next .in2 | exact .next (.next .in2) | exact .next (.next (.next .in2)) | exact .next (.next (.next (.next .in2))) | exact .app .here | exact .app (.next .here) | exact .app (.next (.next .here)) | exact .app (.next (.next (.next .here))) | exact .app (.next (.next (.next (.next .here)))) | exact .app (.next (.next (.next (.next (.next .here))))) | exact .app (.next (.next (.next (.next (.next (.next .here)))))) | exact .app (.next (.next (.next (.next (.next (.next (.next .here))))))) | exact .app .in1 | exact .app .in2 | exact .app (.next .in1) | exact .next (.app .in1) | exact .next (.next (.app .in1)) | exact .next (.app .here) | exact .next (.next (.app .here)) | exact .next (.next (.next (.app .here))) | exact .next (.next (.next (.next (.app .here))))) rfl trivial rfl rfl Try.underlying65 rfl rfl (by rfl) ?_
  refine G.lenSlice rfl trivial rfl rfl Try.underlying65 rfl ?_
  refine G.moveI rfl trivial rfl rfl rfl ?_
  refine G.less (fun _ h => h.empty) ?_
  refine G.nil ?_
  refine C.block ?_
  refine C.loop (fun m F D' L' => ∃ (i : Nat) (ao : Option Addr) (co : Nat) (so : Seg), m = ls.length - i + 0 ∧ i ≤ ls.length ∧ OwnS (.slice ao (onL x (ls.take i)).length co) (onL x (ls.take i)).length ((onL x (ls.take i)).map (Value.int .i64)) 2 1 so ∧ F 0 = .pointer (some ⟨bk, 0, none⟩) ∧ F 10 = .pointer (some ⟨b10, 0, none⟩) ∧ F 11 = .slice ao (onL x (ls.take i)).length co ∧ F 31 = .slice a ls.length c ∧ F 32 = .int .i64 (ls.length : Int) ∧ F 33 = .int .i64 (i : Int) ∧ D' = [] ∧ so :: [(b10, .row (oneC x) 75 3)] :: s1 :: [(bk, .row [.slice a ls.length c] 67 1)] :: L0 = L') ⟨_, ⟨0, none, 0, [], rfl, Nat.zero_le _, OwnS.nil _ _, rfl, rfl, rfl, rfl, rfl, rfl, rfl, rfl⟩⟩ ?_
  rintro m F D' L' ⟨i, ao, co, so, rfl, hi, hon, h0, h10, h11, h31, h32, h33, rfl, rfl⟩
  refine C.fix (d := 0) h0 ?_
  refine C.fix (d := 10) h10 ?_
  refine C.fix (d := 11) h11 ?_
  refine C.fix (d := 31) h31 ?_
  refine C.fix (d := 32) h32 ?_
  refine C.fix (d := 33) h33 ?_
  refine C.seq ?_
  refine C.region ?_
  refine G.bin rfl trivial rfl rfl rfl rfl rfl ?_
  refine G.nil ?_
  refine C.seq ?_
  refine C.cond _ rfl ?_ ?_
  · intro hc1
    have hlt : i < ls.length := by omega
    obtain ⟨bq, cq, kq, hveq, rfl, hq1, hq2⟩ := hv.block (by omega)
    cases hveq
    have hot := onL_take (x := x) hlt
    have hol := onL_le x (ls.take i)
    rw [List.length_take] at hol
    refine C.skip ?_
    refine C.seq ?_
    refine C.block ?_
    refine C.seq ?_
    refine C.region ?_
    refine G.indexAddr rfl trivial rfl rfl Try.underlying65 I75 rfl rfl (by omega) ?_
    refine G.loadAgg (oneC ls[i]) rfl trivial rfl rfl Try.underlying75 rfl I75 rfl rfl (fun w hm => agg_of_row hm (.next (.next .here)) (by have h := row_chunk (rs := []) (f := oneC) (k := 3) (fun _ _ => rfl) hlt; rw [List.append_nil] at h; exact h)) ?_
    refine G.allocC (cs := [(.int .i64 0), (.int .i64 0), (.string ByteArray.empty)]) rfl trivial rfl rfl I75 rfl ?_
    intro b13
    refine G.stRow (by first | exact .here | exact .next .here | exact .next (.next .here) | exact .next (.next (.next .here)) | exact .next (.next (.next (.next .here))) | exact .next (.next (.next (.next (.next .here)))) | exact .next (.next (.next (.next (.next (.next .here))))) | exact .next (.next (.next (.next (.next (.next (.next .here)))))) | exact .in1 | exact .next .in1 | exact .next (.next .in1) | exact .next (.next (.next .in1)) | exact .next (.next (.next (.next .in1))) | exact .in2 | exact .next .in2 | exact .next (.next .in2) | exact .next (.next (.next .in2)) | exact .next (.next (.next (.next .in2))) | exact .app .here | exact .app (.next .here) | exact .app (.next (.next .here)) | exact .app (.next (.next (.next .here))) | exact .app (.next (.next (.next (.next .here)))) | exact .app (.next (.next (.next (.next (.next .here))))) | exact .app (.next (.next (.next (.next (.next (.next .here)))))) | exact .app (.next (.next (.next (.next (.next (.next (.next .here))))))) | exact .app .in1 | exact .app .in2 | exact .app (.next .in1) | exact .next (.app .in1) | exact .next (.next (.app .in1)) | exact .next (.app .here) | exact .next (.next (.app .here)) | exact .next (.next (.next (.app .here))) | exact .next (.next (.next (.next (.app .here))))) rfl trivial rfl I75 rfl rfl rfl (by rfl) (by first | exact oneC_ok _ | simp [cellsOk]) ?_
    refine G.nil ?_
    refine C.seq ?_
    refine C.region ?_
    refine G.loadRow (by first | exact .here | exact .next .here | exact .next (.next .here) | exact .next (.next (.next .here)) | exact .next (.next (.next (.next .here))) | exact .next (.next (.next (.next (.next .here)))) | exact .next (.next (.next (.next (.next (.next .here))))) | exact .next (.next (.next (.next (.next (.next (.next .here)))))) | exact .in1 | exact .next .in1 | exact .next (.next .in1) | exact .next (.next (.next .in1)) | exact .next (.next (.next (.next .in1))) | exact .in2 | exact .next .in2 | exact .next (.next .in2) | exact .next (.next (.next .in2)) | exact .next (.next (.next (.next .in2))) | exact .app .here | exact .app (.next .here) | exact .app (.next (.next .here)) | exact .app (.next (.next (.next .here))) | exact .app (.next (.next (.next (.next .here)))) | exact .app (.next (.next (.next (.next (.next .here))))) | exact .app (.next (.next (.next (.next (.next (.next .here)))))) | exact .app (.next (.next (.next (.next (.next (.next (.next .here))))))) | exact .app .in1 | exact .app .in2 | exact .app (.next .in1) | exact .next (.app .in1) | exact .next (.next (.app .in1)) | exact .next (.app .here) | exact .next (.next (.app .here)) | exact .next (.next (.next (.app .here))) | exact .next (.next (.next (.next (.app .here))))) rfl trivial rfl rfl Try.underlying75 rfl I75 rfl rfl ?_
    refine G.loadRow (by first | exact .here | exact .next .here | exact .next (.next .here) | exact .next (.next (.next .here)) | exact .next (.next (.next (.next .here))) | exact .next (.next (.next (.next (.next .here)))) | exact .next (.next (.next (.next (.next (.next .here))))) | exact .next (.next (.next (.next (.next (.next (.next .here)))))) | exact .in1 | exact .next .in1 | exact .next (.next .in1) | exact .next (.next (.next .in1)) | exact .next (.next (.next (.next .in1))) | exact .in2 | exact .next .in2 | exact .next (.next .in2) | exact .next (.next (.next .in2)) | exact .next (.next (.next (.next .in2))) | exact .app .here | exact .app (.next .here) | exact .app (.next (.next .here)) | exact .app (.next (.next (.next .here))) | exact .app (.next (.next (.next (.next .here)))) | exact .app (.next (.next (.next (.next (.next .here))))) | exact .app (.next (.next (.next (.next (.next (.next .here)))))) | exact .app (.next (.next (.next (.next (.next (.next (.next .here))))))) | exact .app .in1 | exact .app .in2 | exact .app (.next .in1) | exact .next (.app .in1) | exact .next (.next (.app .in1)) | exact .next (.app .here) | exact .next (.next (.app .here)) | exact .next (.next (.next (.app .here))) | exact .next (.next (.next (.next (.app .here))))) rfl trivial rfl rfl Try.underlying75 rfl I75 rfl rfl ?_
    refine G.call E41 rfl rfl trivial rfl rfl (against_spec W0 _ x ls[i]) rfl ?_
    rintro e L2 ⟨rfl, rfl⟩
    refine G.nil ?_
    refine C.condB _ rfl ?_ ?_
    · intro hc2
      refine C.region ?_
      refine G.moveS rfl trivial rfl rfl rfl ?_
      refine G.fieldAddr rfl trivial rfl rfl Try.underlying75 rfl I2 rfl rfl ?_
      refine G.loadAt (v := .int .i64 ls[i].1) .here rfl trivial rfl rfl Try.underlying2 rfl rfl rfl ?_
      refine G.buildSliceL (cs := [.int .i64 ls[i].1]) (zs := [(.int .i64 0)]) rfl trivial rfl rfl Try.underlying27 I2 rfl (by kernel_rfl) rfl rfl ?_
      intro b43
      refine G.less (fun _ h => h.up3) ?_
      refine G.append hon rfl trivial rfl rfl Try.underlying27 Try.underlying27 I2 rfl (by decide) rfl rfl (by decide) (Rd.row0 (.next .here)) rfl (by simp [cellsOk]) (by omega) ?_
      intro v44 s44 hv44
      obtain ⟨a44, c44, rfl, _⟩ := hv44.form
      refine G.assignS rfl trivial rfl rfl rfl ?_
      refine G.nil ?_
      refine C.region ?_
      refine G.addN (j := 1) rfl trivial rfl rfl rfl rfl (by omega) ?_
      refine G.moveI rfl trivial rfl rfl rfl ?_
      refine G.less (fun _ h => h.skip1.skip1) ?_
      refine G.nil ?_
      have e1 : onL x (ls.take (i + 1)) = onL x (ls.take i) ++ [ls[i].1] := by rw [hot, if_pos hc2]
      exact ⟨ls.length - (i + 1) + 0, by omega, i + 1, a44, c44, s44, rfl, by omega, by rw [e1, List.length_append, List.map_append]; exact hv44, rfl, rfl, by rw [e1, List.length_append]; rfl, rfl, rfl, rfl, rfl, rfl⟩
    · intro hc2
      refine C.skip ?_
      refine C.region ?_
      refine G.addN (j := 1) rfl trivial rfl rfl rfl rfl (by omega) ?_
      refine G.moveI rfl trivial rfl rfl rfl ?_
      refine G.less (fun _ h => h.tail) ?_
      refine G.nil ?_
      have e1 : onL x (ls.take (i + 1)) = onL x (ls.take i) := by rw [hot, if_neg (by rw [hc2]; decide)]
      exact ⟨ls.length - (i + 1) + 0, by omega, i + 1, ao, co, so, rfl, by omega, by rw [e1]; exact hon, rfl, rfl, by rw [e1]; rfl, rfl, rfl, rfl, rfl, rfl⟩
  · intro hc1
    rw [List.take_of_length_le (show ls.length ≤ i by omega)] at hon h11 ⊢
    have hol := onL_le x ls
    refine C.exit ?_
    refine C.seq ?_
    refine C.seq ?_
    refine C.region ?_
    refine G.moveS rfl trivial rfl rfl rfl ?_
    refine G.lenSlice rfl trivial rfl rfl Try.underlying27 rfl ?_
    refine G.bin rfl trivial rfl rfl rfl rfl rfl ?_
    refine G.nil ?_
    refine C.cond _ rfl ?_ ?_
    · intro hc3
      obtain ⟨bo, co2, ko, hoeq, rfl, ho1, ho2⟩ := hon.block (by omega)
      cases hoeq
      refine C.less (L' := [(bo, .row (ic (onL x ls).toArray []) 2 ko)] :: [(b10, .row (oneC x) 75 3)] :: s1 :: [(bk, .row [.slice a ls.length c] 67 1)] :: L0) (fun _ h => by simpa [ic] using h) ?_
      refine C.seq ?_
      refine C.region ?_
      refine G.moveS rfl trivial rfl rfl rfl ?_
      refine G.call E23 rfl rfl trivial rfl rfl (sort_spec W0 (At.here (b := bo) (o := .row (ic (onL x ls).toArray []) 2 ko) (s := []) (L := [(b10, .row (oneC x) 75 3)] :: s1 :: [(bk, .row [.slice a ls.length c] 67 1)] :: L0)) 2 ko (onL x ls).length co [] (by omega) (onL x ls).toArray (by simp)) rfl ?_
      rintro e L2 ⟨rfl, rfl⟩
      refine G.less (L' := [(bo, .row ((sortL (onL x ls)).map (Value.int .i64)) 2 ko)] :: [(b10, .row (oneC x) 75 3)] :: s1 :: [(bk, .row [.slice a ls.length c] 67 1)] :: L0) (fun _ h => by simpa [ic] using h) ?_
      refine G.nil ?_
      refine C.seq ?_
      refine C.region ?_
      refine G.moveS rfl trivial rfl rfl rfl ?_
      refine G.call E42 rfl rfl trivial rfl rfl (compact_spec W0 _ (.slice (some ⟨bo, 0, none⟩) (onL x ls).length co) (sortL (onL x ls)) _ (by rw [sortL_length]; exact OwnS.mk (k := ko) (by simp [sortL_length]) ho1 ho2) (by rw [sortL_length]; omega)) rfl ?_
      rintro e L2 ⟨v52, s52, hv52, rfl, rfl⟩
      obtain ⟨a52, c52, rfl, _⟩ := hv52.form
      refine G.assignS rfl trivial rfl rfl rfl ?_
      refine G.assignB rfl trivial rfl rfl rfl ?_
      refine G.nil ?_
      refine C.less (fun _ h => h.skip1) ?_
      refine C.ret ?_
      -- end c1Fc3T
      have hne : onL x ls ≠ [] := by intro h; rw [h] at hc3; exact absurd hc3 (by decide)
      exact ⟨rfl, _, Res.of (rs := [.tmp 8, .tmp 9]) rfl rfl, _, s52, s1, _, ⟨_, by unfold locked; rw [if_neg hne]; exact hv, rfl⟩, hv52, rfl, by rw [decide_eq_false hne]; rfl⟩
    · intro hc3
      have hno : onL x ls = [] := List.eq_nil_of_length_eq_zero (by omega)
      refine C.less (fun _ h => h.tail) ?_
      refine C.skip ?_
      refine C.seq ?_
      refine C.seq ?_
      refine C.drawn mixed (_) [] (fun _ h => h) ?_
      refine GA.pure (i := 0) (fun _ _ _ _ _ h => h) rfl (by kernel_rfl) trivial rfl rfl (Y.moveP rfl rfl) (#[true, false, false, false, false, false, false]) (by kernel_rfl) ?_
      first | refine GA.pure (i := 1) (fun _ _ _ _ _ h => h) rfl (by kernel_rfl) trivial rfl rfl (Y.nilCheckP rfl rfl) (#[true, true, false, false, false, false, false]) (by kernel_rfl) ?_ | refine GA.pure (i := 1) (fun _ _ _ _ _ h => h) rfl (by kernel_rfl) trivial rfl rfl (Y.nilCheckF rfl rfl) (#[true, true, false, false, false, false, false]) (by kernel_rfl) ?_
      refine GA.pure (i := 2) (fun _ _ _ _ _ h => h) rfl (by kernel_rfl) trivial rfl rfl (Y.fieldAddr rfl Try.underlying67 rfl I65 rfl rfl) (#[true, true, true, false, false, false, false]) (by kernel_rfl) ?_
      refine GA.read (i := 3) (fun _ _ _ _ _ h => h) rfl (by kernel_rfl) (by kernel_rfl) trivial rfl rfl (Y.loadAt (by first | exact .here | exact .next .here | exact .next (.next .here) | exact .next (.next (.next .here)) | exact .next (.next (.next (.next .here))) | exact .next (.next (.next (.next (.next .here)))) | exact .next (.next (.next (.next (.next (.next .here))))) | exact .next (.next (.next (.next (.next (.next (.next .here)))))) | exact .in1 | exact .next .in1 | exact .next (.next .in1) | exact .next (.next (.next .in1)) | exact .next (.next (.next (.next .in1))) | exact .in2 | exact .next .in2 | exact .next (.next .in2) | exact .next (.next (.next .in2)) | exact .next (.next (.next (.next .in2))) | exact .app .here | exact .app (.next .here) | exact .app (.next (.next .here)) | exact .app (.next (.next (.next .here))) | exact .app (.next (.next (.next (.next .here)))) | exact .app (.next (.next (.next (.next (.next .here))))) | exact .app (.next (.next (.next (.next (.next (.next .here)))))) | exact .app (.next (.next (.next (.next (.next (.next (.next .here))))))) | exact .app .in1 | exact .app .in2 | exact .app (.next .in1) | exact .next (.app .in1) | exact .next (.next (.app .in1)) | exact .next (.app .here) | exact .next (.next (.app .here)) | exact .next (.next (.next (.app .here))) | exact .next (.next (.next (.next (.app .here))))) rfl Try.underlying65 rfl rfl (by rfl)) (#[true, true, true, true, false, false, false]) (by kernel_rfl) ?_
      refine GA.read (i := 4) (fun _ _ _ _ _ h => h) rfl (by kernel_rfl) (by kernel_rfl) trivial rfl rfl (Y.loadRow (by first | exact .here | exact .next .here | exact .next (.next .here) | exact .next (.next (.next .here)) | exact .next (.next (.next (.next .here))) | exact .next (.next (.next (.next (.next .here)))) | exact .next (.next (.next (.next (.next (.next .here))))) | exact .next (.next (.next (.next (.next (.next (.next .here)))))) | exact .in1 | exact .next .in1 | exact .next (.next .in1) | exact .next (.next (.next .in1)) | exact .next (.next (.next (.next .in1))) | exact .in2 | exact .next .in2 | exact .next (.next .in2) | exact .next (.next (.next .in2)) | exact .next (.next (.next (.next .in2))) | exact .app .here | exact .app (.next .here) | exact .app (.next (.next .here)) | exact .app (.next (.next (.next .here))) | exact .app (.next (.next (.next (.next .here)))) | exact .app (.next (.next (.next (.next (.next .here))))) | exact .app (.next (.next (.next (.next (.next (.next .here)))))) | exact .app (.next (.next (.next (.next (.next (.next (.next .here))))))) | exact .app .in1 | exact .app .in2 | exact .app (.next .in1) | exact .next (.app .in1) | exact .next (.next (.app .in1)) | exact .next (.app .here) | exact .next (.next (.app .here)) | exact .next (.next (.next (.app .here))) | exact .next (.next (.next (.next (.app .here))))) rfl Try.underlying75 rfl I75 rfl rfl) (#[true, true, true, true, true, false, false]) (by kernel_rfl) ?_
      refine GA.one (i := 5) rfl (by kernel_rfl) (#[true, true, true, true, true, true, false]) (by kernel_rfl) ?_
      refine G.call E43 rfl rfl trivial rfl rfl (FnS.perm (contains_spec W0 _ _ ls s1 hv (by omega) x) P2) rfl ?_
      rintro e L2 ⟨rfl, rfl⟩
      refine G.nil ?_
      refine ⟨fun _ _ h => h.perm2, ?_⟩
      first | refine GA.pure (i := 6) (fun _ _ _ _ _ h => h) rfl (by kernel_rfl) trivial rfl rfl (Y.notD rfl rfl) (#[true, true, true, true, true, true, true]) (by kernel_rfl) ?_ | refine GA.pure (i := 6) (fun _ _ _ _ _ h => h) rfl (by kernel_rfl) trivial rfl rfl (Y.not rfl rfl) (#[true, true, true, true, true, true, true]) (by kernel_rfl) ?_
      refine GA.done (by kernel_rfl) ?_
      refine C.condB _ rfl ?_ ?_
      · intro hc4
        refine C.drawn mixed (_) [7, 10] (fun _ h => h) ?_
        refine GA.pure (i := 0) (fun _ _ _ _ _ h => h) rfl (by kernel_rfl) trivial rfl rfl (Y.moveP rfl rfl) (#[true, false, false, false, false, false, false, false, false, false, false]) (by kernel_rfl) ?_
        refine GA.pure (i := 1) (fun _ _ _ _ _ h => h) rfl (by kernel_rfl) trivial rfl rfl (Y.moveP rfl rfl) (#[true, true, false, false, false, false, false, false, false, false, false]) (by kernel_rfl) ?_
        first | refine GA.pure (i := 2) (fun _ _ _ _ _ h => h) rfl (by kernel_rfl) trivial rfl rfl (Y.nilCheckP rfl rfl) (#[true, true, true, false, false, false, false, false, false, false, false]) (by kernel_rfl) ?_ | refine GA.pure (i := 2) (fun _ _ _ _ _ h => h) rfl (by kernel_rfl) trivial rfl rfl (Y.nilCheckF rfl rfl) (#[true, true, true, false, false, false, false, false, false, false, false]) (by kernel_rfl) ?_
        refine GA.pure (i := 3) (fun _ _ _ _ _ h => h) rfl (by kernel_rfl) trivial rfl rfl (Y.fieldAddr rfl Try.underlying67 rfl I65 rfl rfl) (#[true, true, true, true, false, false, false, false, false, false, false]) (by kernel_rfl) ?_
        refine GA.read (i := 4) (fun _ _ _ _ _ h => h) rfl (by kernel_rfl) (by kernel_rfl) trivial rfl rfl (Y.loadAt (by first | exact .here | exact .next .here | exact .next (.next .here) | exact .next (.next (.next .here)) | exact .next (.next (.next (.next .here))) | exact .next (.next (.next (.next (.next .here)))) | exact .next (.next (.next (.next (.next (.next .here))))) | exact .next (.next (.next (.next (.next (.next (.next .here)))))) | exact .in1 | exact .next .in1 | exact .next (.next .in1) | exact .next (.next (.next .in1)) | exact .next (.next (.next (.next .in1))) | exact .in2 | exact .next .in2 | exact .next (.next .in2) | exact .next (.next (.next .in2)) | exact .next (.next (.next (.next .in2))) | exact .app .here | exact .app (.next .here) | exact .app (.next (.next .here)) | exact .app (.next (.next (.next .here))) | exact .app (.next (.next (.next (.next .here)))) | exact .app (.next (.next (.next (.next (.next .here))))) | exact .app (.next (.next (.next (.next (.next (.next .here)))))) | exact .app (.next (.next (.next (.next (.next (.next (.next .here))))))) | exact .app .in1 | exact .app .in2 | exact .app (.next .in1) | exact .next (.app .in1) | exact .next (.next (.app .in1)) | exact .next (.app .here) | exact .next (.next (.app .here)) | exact .next (.next (.next (.app .here))) | exact .next (.next (.next (.next (.app .here))))) rfl Try.underlying65 rfl rfl (by rfl)) (#[true, true, true, true, true, false, false, false, false, false, false]) (by kernel_rfl) ?_
        refine GA.read (i := 5) (fun _ _ _ _ _ h => h) rfl (by kernel_rfl) (by kernel_rfl) trivial rfl rfl (Y.loadRow (by first | exact .here | exact .next .here | exact .next (.next .here) | exact .next (.next (.next .here)) | exact .next (.next (.next (.next .here))) | exact .next (.next (.next (.next (.next .here)))) | exact .next (.next (.next (.next (.next (.next .here))))) | exact .next (.next (.next (.next (.next (.next (.next .here)))))) | exact .in1 | exact .next .in1 | exact .next (.next .in1) | exact .next (.next (.next .in1)) | exact .next (.next (.next (.next .in1))) | exact .in2 | exact .next .in2 | exact .next (.next .in2) | exact .next (.next (.next .in2)) | exact .next (.next (.next (.next .in2))) | exact .app .here | exact .app (.next .here) | exact .app (.next (.next .here)) | exact .app (.next (.next (.next .here))) | exact .app (.next (.next (.next (.next .here)))) | exact .app (.next (.next (.next (.next (.next .here))))) | exact .app (.next (.next (.next (.next (.next (.next .here)))))) | exact .app (.next (.next (.next (.next (.next (.next (.next .here))))))) | exact .app .in1 | exact .app .in2 | exact .app (.next .in1) | exact .next (.app .in1) | exact .next (.next (.app .in1)) | exact .next (.app .here) | exact .next (.next (.app .here)) | exact .next (.next (.next (.app .here))) | exact .next (.next (.next (.next (.app .here))))) rfl Try.underlying75 rfl I75 rfl rfl) (#[true, true, true, true, true, true, false, false, false, false, false]) (by kernel_rfl) ?_
        refine GA.one (i := 6) rfl (by kernel_rfl) (#[true, true, true, true, true, true, true, false, false, false, false]) (by kernel_rfl) ?_
        refine G.buildSliceL (cs := oneC x) (zs := [(.int .i64 0), (.int .i64 0), (.string ByteArray.empty)]) rfl trivial rfl rfl Try.underlying65 I75 rfl (by kernel_rfl) rfl rfl ?_
        intro b66
        refine G.nil ?_
        refine ⟨fun _ _ h => h.tail, ?_⟩
        refine GA.less (L' := s1 :: [(b66, .row (oneC x) 75 3)] :: [(b10, .row (oneC x) 75 3)] :: [(bk, .row [.slice a ls.length c] 67 1)] :: L0) (fun _ h => h.perm2) ?_
        refine GA.one (i := 7) rfl (by kernel_rfl) (#[true, true, true, true, true, true, true, true, false, false, false]) (by kernel_rfl) ?_
        refine G.append hv rfl trivial rfl rfl Try.underlying65 Try.underlying65 I75 rfl (by decide) rfl rfl (by decide) (Rd.row0 (.next .here)) rfl (oneC_ok _) (by omega) ?_
        intro v67 s67 hv67
        obtain ⟨a67, c67, rfl, _⟩ := hv67.form
        refine G.nil ?_
        refine ⟨fun _ h => absurd h (by simp [hit]), ?_⟩
        first | refine GA.pure (i := 8) (fun _ _ _ _ _ h => h) rfl (by kernel_rfl) trivial rfl rfl (Y.nilCheckP rfl rfl) (#[true, true, true, true, true, true, true, true, true, false, false]) (by kernel_rfl) ?_ | refine GA.pure (i := 8) (fun _ _ _ _ _ h => h) rfl (by kernel_rfl) trivial rfl rfl (Y.nilCheckF rfl rfl) (#[true, true, true, true, true, true, true, true, true, false, false]) (by kernel_rfl) ?_
        refine GA.pure (i := 9) (fun _ _ _ _ _ h => h) rfl (by kernel_rfl) trivial rfl rfl (Y.fieldAddr rfl Try.underlying67 rfl I65 rfl rfl) (#[true, true, true, true, true, true, true, true, true, true, false]) (by kernel_rfl) ?_
        refine GA.one (i := 10) rfl (by kernel_rfl) (#[true, true, true, true, true, true, true, true, true, true, true]) (by kernel_rfl) ?_
        refine G.store (v := .slice _ _ _) (by first | exact .here | exact .next .here | exact .next (.next .here) | exact .next (.next (.next .here)) | exact .next (.next (.next (.next .here))) | exact .next (.next (.next (.next (.next .here)))) | exact .next (.next (.next (.next (.next (.next .here))))) | exact .next (.next (.next (.next (.next (.next (.next .here)))))) | exact .in1 | exact .next .in1 | exact .next (.next .in1) | exact .next (.next (.next .in1)) | exact .next (.next (.next (.next .in1))) | exact .in2 | exact .next .in2 | exact .next (.next .in2) | exact .next (.next (.next .in2)) | exact .next (.next (.next (.next .in2))) | exact .app .here | exact .app (.next .here) | exact .app (.next (.next .here)) | exact .app (.next (.next (.next .here))) | exact .app (.next (.next (.next (.next .here)))) | exact .app (.next (.next (.next (.next (.next .here))))) | exact .app (.next (.next (.next (.next (.next (.next .here)))))) | exact .app (.next (.next (.next (.next (.next (.next (.next .here))))))) | exact .app .in1 | exact .app .in2 | exact .app (.next .in1) | exact .next (.app .in1) | exact .next (.next (.app .in1)) | exact .next (.app .here) | exact .next (.next (.app .here)) | exact .next (.next (.next (.app .here))) | exact .next (.next (.next (.next (.app .here))))) rfl trivial rfl I65 rfl rfl rfl (by first | decide | (simp; done) | (simp; omega)) _ (by first | (simp only [List.set_cons_succ, List.set_cons_zero]; done) | (simp only [List.set_cons_succ, List.set_cons_zero]; exact rfl) | exact rfl) ?_
        refine G.nil ?_
        refine ⟨fun _ h => absurd h (by simp [hit]), ?_⟩
        refine GA.done (by kernel_rfl) ?_
        refine C.seq ?_
        refine C.region ?_
        refine G.assignS rfl trivial rfl rfl rfl ?_
        refine G.assignB rfl trivial rfl rfl rfl ?_
        refine G.nil ?_
        refine C.less (fun _ h => h.skip1.skip1.empty) ?_
        refine C.ret ?_
        -- end c1Fc3Fc4T
        have hin : inL x ls = false := by simpa using hc4
        exact ⟨rfl, _, Res.of (rs := [.tmp 8, .tmp 9]) rfl rfl, _, [], s67, _, ⟨_, by unfold locked; rw [if_pos hno, hin]; simpa using hv67, rfl⟩, by rw [refused_nil hno]; exact OwnS.nil _ _, rfl, by rw [decide_eq_true hno]; rfl⟩
      · intro hc4
        refine C.skip ?_
        refine C.seq ?_
        refine C.region ?_
        refine G.assignS rfl trivial rfl rfl rfl ?_
        refine G.assignB rfl trivial rfl rfl rfl ?_
        refine G.nil ?_
        refine C.less (fun _ h => h.skip1.empty) ?_
        refine C.ret ?_
        -- end c1Fc3Fc4F
        have hin : inL x ls = true := by simpa using hc4
        exact ⟨rfl, _, Res.of (rs := [.tmp 8, .tmp 9]) rfl rfl, _, [], s1, _, ⟨_, by unfold locked; rw [if_pos hno, if_pos hin]; exact hv, rfl⟩, by rw [refused_nil hno]; exact OwnS.nil _ _, rfl, by rw [decide_eq_true hno]; rfl⟩
end lock
end Go.Proofs.Ytomiidlbfcfpiaa
