/-
  Locks: what they are first asked (begun); LockNone, LockAgain, LockUp walked.
-/
import Derived.Test.YtomiidlbfcfpiaaLo2
namespace Go.Proofs.Ytomiidlbfcfpiaa
open Go Go.SL Go.RowKit Go.Sort

theorem refused_rising {x : One} {ls : List One} {r : List Int} (h : onL x ls = r) (hr : r.Pairwise (· < ·)) : refused x ls = r := by
  unfold refused
  rw [h, sortL_rising hr, compact_rising _ _ rfl hr]
section lock
variable (W0 : World) (L0 : List Seg) (bk : Nat)
theorem lock_ok (ls ls' : List One) (s1 s2 : Seg) (h : LkIs bk ls s1 s2) (hl : ls.length ≤ 900) (t m : Int) (k : ByteArray) (hm : 1 ≤ m ∧ m ≤ 3) (hx : onL (lockOf t m k) ls = []) (hls : (if inL (lockOf t m k) ls then ls else ls ++ [lockOf t m k]) = ls') :
    FnS Try.prog W0 26 #[.pointer (some ⟨bk, 0, none⟩), .int .i64 t, .int .i64 m, .string k] (s1 :: s2 :: L0)
    (fun e L' => ∃ a c s1' s2', LkIs bk ls' s1' s2' ∧ L' = s1' :: s2' :: L0 ∧ e = .returned (.tuple #[.slice a 0 c, .bool true])) := by
  refine (lock_spec W0 L0 bk ls s1 s2 h hl t m k hm).drop ?_
  rintro e L' ⟨v, sv, s1', s2', h1, h2, rfl, rfl⟩
  obtain ⟨a, c, rfl, _⟩ := h2.form
  refine ⟨s1' :: s2' :: L0, fun w hw => hw.tail, a, c, s1', s2', ?_, rfl, ?_⟩
  · unfold locked at h1
    rw [if_pos hx, hls] at h1
    exact h1
  · rw [refused_nil hx, decide_eq_true hx]; rfl
theorem lock_no (ls : List One) (s1 s2 : Seg) (h : LkIs bk ls s1 s2) (hl : ls.length ≤ 900) (t m : Int) (k : ByteArray) (hm : 1 ≤ m ∧ m ≤ 3) (hx : onL (lockOf t m k) ls ≠ []) (r : List Int) (hr : refused (lockOf t m k) ls = r) :
    FnS Try.prog W0 26 #[.pointer (some ⟨bk, 0, none⟩), .int .i64 t, .int .i64 m, .string k] (s1 :: s2 :: L0)
    (fun e L' => ∃ a c sv s1' s2', LkIs bk ls s1' s2' ∧ OwnS (.slice a r.length c) r.length (r.map (Value.int .i64)) 2 1 sv ∧ L' = sv :: s1' :: s2' :: L0 ∧ e = .returned (.tuple #[.slice a r.length c, .bool false])) := by
  refine (lock_spec W0 L0 bk ls s1 s2 h hl t m k hm).mono ?_
  rintro e L' ⟨v, sv, s1', s2', h1, h2, rfl, rfl⟩
  obtain ⟨a, c, rfl, _⟩ := h2.form
  subst hr
  refine ⟨a, c, sv, s1', s2', ?_, h2, rfl, ?_⟩
  · unfold locked at h1
    rw [if_neg hx] at h1
    exact h1
  · rw [decide_eq_false hx]
end lock
/-! ### begun -/
abbrev kB : ByteArray := ⟨⟨[107]⟩⟩
abbrev jB : ByteArray := ⟨⟨[106]⟩⟩
abbrev ls1 : List One := [(1, 1, kB)]
abbrev ls2 : List One := [(1, 1, kB), (2, 1, kB)]
abbrev ls3 : List One := [(1, 1, kB), (2, 1, kB), (2, 3, ByteArray.empty)]
theorem two_rising : [(2 : Int)].Pairwise (· < ·) := by simp
section laws
variable (W0 : World)
end laws
end Go.Proofs.Ytomiidlbfcfpiaa
