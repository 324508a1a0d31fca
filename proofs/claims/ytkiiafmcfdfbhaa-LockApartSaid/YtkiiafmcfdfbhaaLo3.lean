/-
  Locks: what they are first asked (begun); LockNone, LockAgain, LockUp walked.
-/
import Derived.Test.YtkiiafmcfdfbhaaLo2
namespace Go.Proofs.Ytkiiafmcfdfbhaa
open Go Go.SL Go.RowKit Go.Sort

theorem compact_rising : ∀ n (l : List Int), l.length = n → l.Pairwise (· < ·) → compactL l = l
  | 0, l, h, _ => by rw [List.eq_nil_of_length_eq_zero h]; rfl
  | n + 1, l, h, hp => by
    obtain ⟨m, x, rfl⟩ : ∃ m x, l = m ++ [x] := ⟨l.dropLast, l.getLast (by intro e; rw [e] at h; cases h), (List.dropLast_concat_getLast _).symm⟩
    rw [List.pairwise_append] at hp
    rw [compact_snoc, compact_rising n m (by simpa using h) hp.1]
    unfold cstep
    rw [if_neg]
    intro he
    have := hp.2.2 x (List.mem_of_getLast? he) x (by simp)
    omega
theorem sortL_rising {l : List Int} (h : l.Pairwise (· < ·)) : sortL l = l := by
  unfold sortL
  exact List.mergeSort_of_pairwise (h.imp fun h => by simp; omega)
theorem refused_rising {x : One} {ls : List One} {r : List Int} (h : onL x ls = r) (hr : r.Pairwise (· < ·)) : refused x ls = r := by
  unfold refused
  rw [h, sortL_rising hr, compact_rising _ _ rfl hr]
section lock
variable (W0 : World) (L0 : List Seg) (bk : Nat)
theorem lock_ok (ls ls' : List One) (s1 s2 : Seg) (h : LkIs bk ls s1 s2) (hl : ls.length ≤ 900) (t m : Int) (k : ByteArray) (hm : 1 ≤ m ∧ m ≤ 3) (hx : onL (lockOf t m k) ls = []) (hls : (if inL (lockOf t m k) ls then ls else ls ++ [lockOf t m k]) = ls') :
    FnS Try.prog W0 12 #[.pointer (some ⟨bk, 0, none⟩), .int .i64 t, .int .i64 m, .string k] (s1 :: s2 :: L0)
    (fun e L' => ∃ a c s1' s2', LkIs bk ls' s1' s2' ∧ L' = s1' :: s2' :: L0 ∧ e = .returned (.tuple #[.slice a 0 c, .bool true])) := by
  refine (lock_spec W0 L0 bk ls s1 s2 h hl t m k hm).drop ?_
  rintro e L' ⟨v, sv, s1', s2', h1, h2, rfl, rfl⟩
  obtain ⟨a, c, rfl, _⟩ := h2.form
  refine ⟨s1' :: s2' :: L0, fun w hw => hw.tail, a, c, s1', s2', ?_, rfl, ?_⟩
  · unfold locked at h1
    rw [if_pos hx, hls] at h1
    exact h1
  · rw [refused_nil hx, decide_eq_true hx]; rfl
theorem lock_no (ls : List One) (s1 s2 : Seg) (h : LkIs bk ls s1 s2) (hl : ls.length ≤ 900) (t m : Int) (k : ByteArray) (hm : 1 ≤ m ∧ m ≤ 3) (hx : onL (lockOf t m k) ls ≠ []) (r : List Int) (hr : refused (lockOf t m k) ls = r) :
    FnS Try.prog W0 12 #[.pointer (some ⟨bk, 0, none⟩), .int .i64 t, .int .i64 m, .string k] (s1 :: s2 :: L0)
    (fun e L' => ∃ a c sv s1' s2', LkIs bk ls s1' s2' ∧ OwnS (.slice a r.length c) r.length (r.map (Value.int .i64)) 2 1 sv ∧ L' = sv :: s1' :: s2' :: L0 ∧ e = .returned (.tuple #[.slice a r.length c, .bool false])) := by
  refine (lock_spec W0 L0 bk ls s1 s2 h hl t m k hm).mono ?_
  rintro e L' ⟨v, sv, s1', s2', h1, h2, rfl, rfl⟩
  obtain ⟨a, c, rfl, _⟩ := h2.form
  subst hr
  refine ⟨a, c, sv, s1', s2', ?_, h2, rfl, ?_⟩
  · unfold locked at h1
    rw [if_neg hx] at h1
    exact h1
  · rw [decide_eq_false hx]
end lock
/-! ### begun -/
abbrev kB : ByteArray := ⟨⟨[107]⟩⟩
abbrev jB : ByteArray := ⟨⟨[106]⟩⟩
abbrev ls1 : List One := [(1, 1, kB)]
abbrev ls2 : List One := [(1, 1, kB), (2, 1, kB)]
abbrev ls3 : List One := [(1, 1, kB), (2, 1, kB), (2, 3, ByteArray.empty)]
theorem two_rising : [(2 : Int)].Pairwise (· < ·) := by simp
section laws
variable (W0 : World)
theorem begun_spec (L : List Seg) : FnS Try.prog W0 9 #[] L (fun e L' => L' = L ∧ e = .returned (.bool true)) := by
  refine FnS.of (args := []) Try.func9 rfl rfl ?_
  refine C.seq ?_
  refine C.region ?_
  refine G.assignB rfl trivial rfl rfl rfl ?_
  refine G.nil ?_
  refine C.seq ?_
  refine C.region ?_
  refine G.call E10 rfl rfl trivial rfl rfl (new_spec W0 L) rfl ?_
  rintro e L2 ⟨bk, s1, s2, h1, rfl, rfl⟩
  refine G.assignP rfl trivial rfl rfl rfl ?_
  refine G.nil ?_
  refine C.seq ?_
  refine C.seq ?_
  refine C.region ?_
  refine G.moveP rfl trivial rfl rfl rfl ?_
  refine G.ptrEq rfl trivial rfl rfl Try.underlying24 rfl rfl ?_
  refine G.nil ?_
  refine C.condF rfl ?_
  refine C.skip ?_
  refine C.seq ?_
  refine C.region ?_
  refine G.moveP rfl trivial rfl rfl rfl ?_
  refine G.call E12 rfl rfl trivial rfl rfl (lock_ok W0 L bk [] ls1 s1 s2 h1 (by decide) 1 1 kB (by decide) (by rfl) (by rfl)) rfl ?_
  rintro e L2 ⟨a2, c2, s3, s4, h2, rfl, rfl⟩
  refine G.moveU rfl trivial rfl rfl rfl ?_
  refine G.extractL rfl trivial rfl rfl rfl rfl ?_
  refine G.extractL rfl trivial rfl rfl rfl rfl ?_
  refine G.assignS rfl trivial rfl rfl rfl ?_
  refine G.assignB rfl trivial rfl rfl rfl ?_
  refine G.nil ?_
  refine C.seq ?_
  refine C.region ?_
  refine G.moveP rfl trivial rfl rfl rfl ?_
  refine G.call E12 rfl rfl trivial rfl rfl (lock_ok W0 L bk ls1 ls2 s3 s4 h2 (by decide) 2 1 kB (by decide) (by rfl) (by rfl)) rfl ?_
  rintro e L2 ⟨a4, c4, s5, s6, h3, rfl, rfl⟩
  refine G.moveU rfl trivial rfl rfl rfl ?_
  refine G.extractL rfl trivial rfl rfl rfl rfl ?_
  refine G.extractL rfl trivial rfl rfl rfl rfl ?_
  refine G.assignS rfl trivial rfl rfl rfl ?_
  refine G.assignB rfl trivial rfl rfl rfl ?_
  refine G.nil ?_
  refine C.seq ?_
  refine C.region ?_
  refine G.moveP rfl trivial rfl rfl rfl ?_
  refine G.call E12 rfl rfl trivial rfl rfl (lock_no W0 L bk ls2 s5 s6 h3 (by decide) 1 2 kB (by decide) (by decide) [2] (refused_rising (by rfl) two_rising)) rfl ?_
  rintro e L2 ⟨a6, c6, sv6, s7, s8, h4, hv6, rfl, rfl⟩
  obtain ⟨bo6, co6, ko6, hoe6, rfl, _, _⟩ := hv6.block (by decide)
  cases hoe6
  refine G.moveU rfl trivial rfl rfl rfl ?_
  refine G.extractL rfl trivial rfl rfl rfl rfl ?_
  refine G.extractL rfl trivial rfl rfl rfl rfl ?_
  refine G.assignS rfl trivial rfl rfl rfl ?_
  refine G.assignB rfl trivial rfl rfl rfl ?_
  refine G.nil ?_
  refine C.seq ?_
  refine C.region ?_
  refine G.moveP rfl trivial rfl rfl rfl ?_
  refine G.call E12 rfl rfl trivial rfl rfl (FnS.perm (lock_ok W0 ([(bo6, .row [.int .i64 2] 2 ko6)] :: L) bk ls2 ls3 s7 s8 h4 (by decide) 2 3 ByteArray.empty (by decide) (by rfl) (by rfl)) P3.symm) rfl ?_
  rintro e L2 ⟨a8, c8, s9, s10, h5, rfl, rfl⟩
  refine G.moveU rfl trivial rfl rfl rfl ?_
  refine G.extractL rfl trivial rfl rfl rfl rfl ?_
  refine G.extractL rfl trivial rfl rfl rfl rfl ?_
  refine G.assignS rfl trivial rfl rfl rfl ?_
  refine G.assignB rfl trivial rfl rfl rfl ?_
  refine G.nil ?_
  refine C.seq ?_
  refine C.region ?_
  refine G.moveP rfl trivial rfl rfl rfl ?_
  refine G.call E12 rfl rfl trivial rfl rfl (lock_no W0 ([(bo6, .row [.int .i64 2] 2 ko6)] :: L) bk ls3 s9 s10 h5 (by decide) 1 2 jB (by decide) (by decide) [2] (refused_rising (by rfl) two_rising)) rfl ?_
  rintro e L2 ⟨a10, c10, sv10, s11, s12, h6, hv10, rfl, rfl⟩
  refine G.moveU rfl trivial rfl rfl rfl ?_
  refine G.extractL rfl trivial rfl rfl rfl rfl ?_
  refine G.extractL rfl trivial rfl rfl rfl rfl ?_
  refine G.assignS rfl trivial rfl rfl rfl ?_
  refine G.assignB rfl trivial rfl rfl rfl ?_
  refine G.nil ?_
  refine C.seq ?_
  refine C.region ?_
  refine G.moveB rfl trivial rfl rfl rfl ?_
  refine G.moveB rfl trivial rfl rfl rfl ?_
  refine G.moveB rfl ⟨_, rfl, rfl, rfl⟩ rfl rfl rfl ?_
  first | refine G.pickT rfl trivial rfl rfl rfl rfl ?_ | refine G.pickF rfl trivial rfl rfl rfl rfl ?_
  refine G.moveB rfl trivial rfl rfl rfl ?_
  refine G.moveB rfl ⟨_, rfl, rfl, rfl⟩ rfl rfl rfl ?_
  first | refine G.notD rfl ⟨_, rfl, rfl, rfl⟩ rfl rfl rfl ?_ | refine G.not rfl ⟨_, rfl, rfl, rfl⟩ rfl rfl rfl ?_
  first | refine G.pickT rfl trivial rfl rfl rfl rfl ?_ | refine G.pickF rfl trivial rfl rfl rfl rfl ?_
  refine G.moveB rfl trivial rfl rfl rfl ?_
  refine G.moveS rfl ⟨_, rfl, rfl, rfl⟩ rfl rfl rfl ?_
  refine G.lenSlice rfl ⟨_, rfl, rfl, rfl⟩ rfl rfl Try.underlying33 rfl ?_
  refine G.bin rfl ⟨_, rfl, rfl, rfl⟩ rfl rfl rfl rfl rfl ?_
  first | refine G.pickT rfl trivial rfl rfl rfl rfl ?_ | refine G.pickF rfl trivial rfl rfl rfl rfl ?_
  refine G.moveB rfl trivial rfl rfl rfl ?_
  refine G.moveS rfl ⟨_, rfl, rfl, rfl⟩ rfl rfl rfl ?_
  refine G.indexAddr rfl ⟨_, rfl, rfl, rfl⟩ rfl rfl Try.underlying33 I2 rfl rfl (by simp) ?_
  refine G.loadAt (v := .int .i64 2) (.next (.next (.next .here))) rfl ⟨_, rfl, rfl, rfl⟩ rfl rfl Try.underlying2 rfl rfl rfl ?_
  refine G.bin rfl ⟨_, rfl, rfl, rfl⟩ rfl rfl rfl rfl rfl ?_
  first | refine G.pickT rfl trivial rfl rfl rfl rfl ?_ | refine G.pickF rfl trivial rfl rfl rfl rfl ?_
  refine G.moveB rfl trivial rfl rfl rfl ?_
  refine G.moveB rfl ⟨_, rfl, rfl, rfl⟩ rfl rfl rfl ?_
  first | refine G.pickT rfl trivial rfl rfl rfl rfl ?_ | refine G.pickF rfl trivial rfl rfl rfl rfl ?_
  refine G.moveB rfl trivial rfl rfl rfl ?_
  refine G.moveB rfl ⟨_, rfl, rfl, rfl⟩ rfl rfl rfl ?_
  first | refine G.notD rfl ⟨_, rfl, rfl, rfl⟩ rfl rfl rfl ?_ | refine G.not rfl ⟨_, rfl, rfl, rfl⟩ rfl rfl rfl ?_
  first | refine G.pickT rfl trivial rfl rfl rfl rfl ?_ | refine G.pickF rfl trivial rfl rfl rfl rfl ?_
  refine G.moveB rfl trivial rfl rfl rfl ?_
  refine G.moveS rfl ⟨_, rfl, rfl, rfl⟩ rfl rfl rfl ?_
  refine G.lenSlice rfl ⟨_, rfl, rfl, rfl⟩ rfl rfl Try.underlying33 rfl ?_
  refine G.bin rfl ⟨_, rfl, rfl, rfl⟩ rfl rfl rfl rfl rfl ?_
  first | refine G.pickT rfl trivial rfl rfl rfl rfl ?_ | refine G.pickF rfl trivial rfl rfl rfl rfl ?_
  refine G.moveB rfl trivial rfl rfl rfl ?_
  refine G.moveP rfl ⟨_, rfl, rfl, rfl⟩ rfl rfl rfl ?_
  refine G.call E15 rfl rfl ⟨_, rfl, rfl, rfl⟩ rfl rfl (FnS.perm (free_spec W0 (sv10 :: [(bo6, .row [.int .i64 2] 2 ko6)] :: L) bk ls3 s11 s12 h6 (by decide) 2) P3.symm) rfl ?_
  rintro e L2 ⟨s13, s14, h7, rfl, rfl⟩
  replace h7 : LkIs bk ls1 s13 s14 := h7
  refine G.bin rfl ⟨_, rfl, rfl, rfl⟩ rfl rfl rfl rfl rfl ?_
  first | refine G.pickT rfl trivial rfl rfl rfl rfl ?_ | refine G.pickF rfl trivial rfl rfl rfl rfl ?_
  refine G.moveB rfl trivial rfl rfl rfl ?_
  refine G.moveP rfl ⟨_, rfl, rfl, rfl⟩ rfl rfl rfl ?_
  refine G.call E18 rfl rfl ⟨_, rfl, rfl, rfl⟩ rfl rfl (lhas_spec W0 _ bk ls1 s13 s14 h7 (by decide) 1 1 kB) rfl ?_
  rintro e L2 ⟨rfl, rfl⟩
  first | refine G.pickT rfl trivial rfl rfl rfl rfl ?_ | refine G.pickF rfl trivial rfl rfl rfl rfl ?_
  refine G.moveB rfl trivial rfl rfl rfl ?_
  refine G.moveP rfl ⟨_, rfl, rfl, rfl⟩ rfl rfl rfl ?_
  refine G.call E17 rfl rfl ⟨_, rfl, rfl, rfl⟩ rfl rfl (llen_spec W0 _ bk ls1 s13 s14 h7) rfl ?_
  rintro e L2 ⟨rfl, rfl⟩
  refine G.bin rfl ⟨_, rfl, rfl, rfl⟩ rfl rfl rfl rfl rfl ?_
  first | refine G.pickT rfl trivial rfl rfl rfl rfl ?_ | refine G.pickF rfl trivial rfl rfl rfl rfl ?_
  refine G.assignB rfl trivial rfl rfl rfl ?_
  refine G.nil ?_
  refine C.less (fun _ h => h.tail.tail.tail.tail) ?_
  refine C.ret ?_
  -- end 
  exact ⟨rfl, _, Res.of (rs := [.tmp 0]) rfl rfl, rfl, rfl⟩
theorem none_walk : FnS Try.prog W0 5 #[] [] (fun e _ => e = .returned (.bool true)) := by
  refine FnS.of (args := []) Try.func5 rfl rfl ?_
  refine C.seq ?_
  refine C.region ?_
  refine G.assignB rfl trivial rfl rfl rfl ?_
  refine G.nil ?_
  refine C.seq ?_
  refine C.region ?_
  refine G.assignP rfl trivial rfl rfl rfl ?_
  refine G.nil ?_
  refine C.seq ?_
  refine C.region ?_
  refine G.moveP rfl trivial rfl rfl rfl ?_
  refine G.call E12 rfl rfl trivial rfl rfl (lock_nil W0 _ 1 1 kB) rfl ?_
  rintro e L2 ⟨rfl, rfl⟩
  refine G.moveU rfl trivial rfl rfl rfl ?_
  refine G.extractL rfl trivial rfl rfl rfl rfl ?_
  refine G.extractL rfl trivial rfl rfl rfl rfl ?_
  refine G.assignS rfl trivial rfl rfl rfl ?_
  refine G.assignB rfl trivial rfl rfl rfl ?_
  refine G.nil ?_
  refine C.seq ?_
  refine C.region ?_
  refine G.call E9 rfl rfl trivial rfl rfl (begun_spec W0 _) rfl ?_
  rintro e L2 ⟨rfl, rfl⟩
  refine G.moveB rfl trivial rfl rfl rfl ?_
  refine G.moveS rfl ⟨_, rfl, rfl, rfl⟩ rfl rfl rfl ?_
  refine G.lenSlice rfl ⟨_, rfl, rfl, rfl⟩ rfl rfl Try.underlying33 rfl ?_
  refine G.bin rfl ⟨_, rfl, rfl, rfl⟩ rfl rfl rfl rfl rfl ?_
  first | refine G.pickT rfl trivial rfl rfl rfl rfl ?_ | refine G.pickF rfl trivial rfl rfl rfl rfl ?_
  refine G.moveB rfl trivial rfl rfl rfl ?_
  refine G.moveB rfl ⟨_, rfl, rfl, rfl⟩ rfl rfl rfl ?_
  first | refine G.notD rfl ⟨_, rfl, rfl, rfl⟩ rfl rfl rfl ?_ | refine G.not rfl ⟨_, rfl, rfl, rfl⟩ rfl rfl rfl ?_
  first | refine G.pickT rfl trivial rfl rfl rfl rfl ?_ | refine G.pickF rfl trivial rfl rfl rfl rfl ?_
  refine G.moveB rfl trivial rfl rfl rfl ?_
  refine G.moveP rfl ⟨_, rfl, rfl, rfl⟩ rfl rfl rfl ?_
  refine G.call E15 rfl rfl ⟨_, rfl, rfl, rfl⟩ rfl rfl (free_nil W0 _ 1) rfl ?_
  rintro e L2 ⟨rfl, rfl⟩
  refine G.bin rfl ⟨_, rfl, rfl, rfl⟩ rfl rfl rfl rfl rfl ?_
  first | refine G.pickT rfl trivial rfl rfl rfl rfl ?_ | refine G.pickF rfl trivial rfl rfl rfl rfl ?_
  refine G.moveB rfl trivial rfl rfl rfl ?_
  refine G.moveP rfl ⟨_, rfl, rfl, rfl⟩ rfl rfl rfl ?_
  refine G.call E18 rfl rfl ⟨_, rfl, rfl, rfl⟩ rfl rfl (has_nil W0 _ 1 1 kB) rfl ?_
  rintro e L2 ⟨rfl, rfl⟩
  first | refine G.notD rfl ⟨_, rfl, rfl, rfl⟩ rfl rfl rfl ?_ | refine G.not rfl ⟨_, rfl, rfl, rfl⟩ rfl rfl rfl ?_
  first | refine G.pickT rfl trivial rfl rfl rfl rfl ?_ | refine G.pickF rfl trivial rfl rfl rfl rfl ?_
  refine G.moveB rfl trivial rfl rfl rfl ?_
  refine G.moveP rfl ⟨_, rfl, rfl, rfl⟩ rfl rfl rfl ?_
  refine G.call E17 rfl rfl ⟨_, rfl, rfl, rfl⟩ rfl rfl (len_nil W0 _) rfl ?_
  rintro e L2 ⟨rfl, rfl⟩
  refine G.bin rfl ⟨_, rfl, rfl, rfl⟩ rfl rfl rfl rfl rfl ?_
  first | refine G.pickT rfl trivial rfl rfl rfl rfl ?_ | refine G.pickF rfl trivial rfl rfl rfl rfl ?_
  refine G.assignB rfl trivial rfl rfl rfl ?_
  refine G.nil ?_
  refine C.ret ?_
  -- end 
  exact ⟨rfl, _, Res.of (rs := [.tmp 0]) rfl rfl, rfl⟩
end laws
end Go.Proofs.Ytkiiafmcfdfbhaa
