/-
  Transactions: TxnRing walked.
-/
import Derived.Test.YtomiidlbfcfpiaaTx4
namespace Go.Proofs.Ytomiidlbfcfpiaa
open Go Go.SL Go.RowKit Go.Sort

def kR (j : Nat) : ByteArray := strB [UInt8.ofNat (97 + j)]
theorem kR_inj {i j : Nat} (hi : i < 8) (hj : j < 8) (h : kR i = kR j) : i = j := by
  have h3 := (List.cons.inj (strB_inj.1 h)).1
  have h4 := congrArg UInt8.toNat h3
  simp at h4
  omega
/-- each has written its own -/
def lsR (n : Nat) : List One := (List.range n).map fun (j : Nat) => (((1 + j : Nat) : Int), (2 : Int), kR j)
theorem lsR_len (n : Nat) : (lsR n).length = n := by simp [lsR]
theorem lsR_succ (n : Nat) : lsR (n + 1) = lsR n ++ [(((1 + n : Nat) : Int), 2, kR n)] := by simp [lsR, List.range_succ]
theorem lsR_free {i : Nat} (h : i < 8) : onL (lockOf ((1 + i : Nat) : Int) 2 (kR i)) (lsR i) = [] := by
  unfold onL
  rw [List.map_eq_nil_iff, List.filter_eq_nil_iff]
  intro y hy
  obtain ⟨j, hj, rfl⟩ := List.mem_map.1 hy
  rw [List.mem_range] at hj
  have hk : ¬ kR i = kR j := fun h2 => by have := kR_inj h (by omega) h2; omega
  unfold againstB lockOf
  simp [hk]
theorem lsR_lock {i : Nat} (h : i < 8) : locked (lockOf ((1 + i : Nat) : Int) 2 (kR i)) (lsR i) = lsR (i + 1) := by
  unfold locked
  rw [if_pos (lsR_free h)]
  have hn : inL (lockOf ((1 + i : Nat) : Int) 2 (kR i)) (lsR i) = false := by
    rw [Bool.eq_false_iff]
    intro h2
    obtain ⟨j, hj, he⟩ := List.mem_map.1 ((inL_iff _ _).1 h2)
    rw [List.mem_range] at hj
    have h3 := congrArg Prod.fst he
    simp only [lockOf] at h3
    omega
  rw [hn, lsR_succ]
  rfl
theorem filter_one {α : Type} {p : α → Bool} {x : α} {f : Nat → α} : ∀ {n t : Nat}, t < n → f t = x → p x = true → (∀ j, j < n → j ≠ t → p (f j) = false) → ((List.range n).map f).filter p = [x]
  | 0, t, h, _, _, _ => by omega
  | n + 1, t, h, he, hp, hno => by
    rw [List.range_succ, List.map_append, List.filter_append]
    by_cases e : t = n
    · subst e
      rw [List.filter_eq_nil_iff.2, List.map_singleton, he, List.filter_cons_of_pos hp]
      · rfl
      · intro y hy
        obtain ⟨j, hj, rfl⟩ := List.mem_map.1 hy
        rw [List.mem_range] at hj
        rw [hno j (by omega) (by omega)]
        decide
    · rw [filter_one (t := t) (by omega) he hp fun j hj => hno j (by omega), List.map_singleton, List.filter_cons_of_neg (by rw [hno n (by omega) (fun h => e h.symm)]; decide)]
      rfl
theorem lsR_read {n i t : Nat} (hn : n ≤ 8) (hi : i < n) (ht : t < n) (hne : t ≠ i) : onL (lockOf ((1 + i : Nat) : Int) 1 (kR t)) (lsR n) = [((1 + t : Nat) : Int)] := by
  unfold onL lsR
  rw [filter_one (t := t) (x := (((1 + t : Nat) : Int), (2 : Int), kR t)) ht rfl]
  · rfl
  · unfold againstB lockOf
    have : ¬ (1 + (i : Int)) = 1 + t := by omega
    simp [this]
  · intro j hj hjt
    have hk : ¬ kR t = kR j := fun h2 => by have := kR_inj (by omega) (by omega) h2; omega
    unfold againstB lockOf
    simp [hk]
/-- who waits for the next one: those from f on, k of them, round n -/
def gR (f n k : Nat) : Int → List Int := fun v => if 1 ≤ v ∧ v ≤ (n : Int) ∧ ((v.toNat - 1) + n - f) % n < k then [((1 + v.toNat % n : Nat) : Int)] else []
theorem off_eq {f n j : Nat} (hf : f < n) (hj : j < n) : ((f + j) % n + n - f) % n = j := by
  rcases Nat.lt_or_ge (f + j) n with h | h
  · rw [Nat.mod_eq_of_lt h, show f + j + n - f = j + n by omega, Nat.add_mod_right, Nat.mod_eq_of_lt hj]
  · rw [Nat.mod_eq_sub_mod h, Nat.mod_eq_of_lt (show f + j - n < n by omega), show f + j - n + n - f = j by omega, Nat.mod_eq_of_lt hj]
theorem off_inj {f n p : Nat} (hf : f < n) (hp : p < n) : p = (f + (p + n - f) % n) % n := by
  rcases Nat.lt_or_ge p f with h | h
  · rw [Nat.mod_eq_of_lt (show p + n - f < n by omega), show f + (p + n - f) = p + n by omega, Nat.add_mod_right, Nat.mod_eq_of_lt hp]
  · have e : (p + n - f) % n = p - f := by rw [show p + n - f = (p - f) + n by omega, Nat.add_mod_right, Nat.mod_eq_of_lt (by omega)]
    rw [e, show f + (p - f) = p by omega, Nat.mod_eq_of_lt hp]
theorem gR_at {f n k j : Nat} (hf : f < n) (hj : j < n) : gR f n k ((1 + (f + j) % n : Nat) : Int) = if j < k then [((1 + (1 + (f + j) % n) % n : Nat) : Int)] else [] := by
  have hlt : (f + j) % n < n := Nat.mod_lt _ (by omega)
  unfold gR
  rw [show (((1 + (f + j) % n : Nat) : Int).toNat - 1) = (f + j) % n by omega, off_eq hf hj, Int.toNat_natCast]
  by_cases h : j < k
  · rw [if_pos ⟨by omega, by omega, h⟩, if_pos h]
  · rw [if_neg (fun h2 => h h2.2.2), if_neg h]
theorem gR_set {f n k : Nat} (hf : f < n) (hk : k < n) : setG (gR f n k) ((1 + (f + k) % n : Nat) : Int) [((1 + (1 + (f + k) % n) % n : Nat) : Int)] = gR f n (k + 1) := by
  funext v
  have hlt : (f + k) % n < n := Nat.mod_lt _ (by omega)
  unfold setG
  by_cases hv : v = ((1 + (f + k) % n : Nat) : Int)
  · rw [if_pos hv, hv, gR_at hf hk, if_pos (by omega)]
  · rw [if_neg hv]
    unfold gR
    by_cases hr : 1 ≤ v ∧ v ≤ (n : Int)
    · have hne : ((v.toNat - 1) + n - f) % n ≠ k := fun h => by
        have h2 := off_inj (f := f) (n := n) (p := v.toNat - 1) hf (by omega)
        rw [h] at h2
        omega
      by_cases h : ((v.toNat - 1) + n - f) % n < k
      · rw [if_pos ⟨hr.1, hr.2, h⟩, if_pos ⟨hr.1, hr.2, by omega⟩]
      · rw [if_neg (fun h2 => h h2.2.2), if_neg (fun h2 => by have := h2.2.2; omega)]
    · rw [if_neg (fun h2 => hr ⟨h2.1, h2.2.1⟩), if_neg (fun h2 => hr ⟨h2.1, h2.2.1⟩)]
theorem next_eq (f j n : Nat) : (1 + (f + j) % n) % n = (f + (j + 1)) % n := by rw [show f + (j + 1) = 1 + (f + j) by omega, Nat.add_mod_mod]
theorem ring_free {f n k : Nat} (hf : f < n) (hn : 2 ≤ n) (hk : k + 1 < n) : ¬ Rch (gR f n k) (insAll [((1 + (1 + (f + k) % n) % n : Nat) : Int)]) ((1 + (f + k) % n : Nat) : Int) := by
  refine not_rch (sl := [((1 + (1 + (f + k) % n) % n : Nat) : Int)]) (fun y hy => (insAll_mem _ _ rfl y).1 hy) (fun x hx y hy => ?_) ?_
  · rw [List.mem_singleton.1 hx, next_eq, gR_at hf hk, if_neg (by omega)] at hy
    cases hy
  · rw [List.mem_singleton, next_eq]
    intro h
    have h1 := off_eq hf (show k < n by omega)
    have h2 := off_eq hf hk
    have h3 : (f + k) % n = (f + (k + 1)) % n := by omega
    rw [h3] at h1
    omega
theorem ring_all {f n : Nat} (hf : f < n) (hn : 2 ≤ n) : Rch (gR f n (n - 1)) (insAll [((1 + (1 + (f + (n - 1)) % n) % n : Nat) : Int)]) ((1 + (f + (n - 1)) % n : Nat) : Int) := by
  have h0 : (1 + (f + (n - 1)) % n) % n = f := by rw [next_eq, show f + (n - 1 + 1) = f + n by omega, Nat.add_mod_right, Nat.mod_eq_of_lt hf]
  rw [h0]
  have key : ∀ j, j < n → Rch (gR f n (n - 1)) (insAll [((1 + f : Nat) : Int)]) ((1 + (f + j) % n : Nat) : Int) := by
    intro j
    induction j with
    | zero => intro _; refine .base ((insAll_mem _ _ rfl _).2 ?_); rw [Nat.add_zero, Nat.mod_eq_of_lt hf]; simp
    | succ j ih =>
      intro hj
      refine .step (ih (by omega)) ?_
      rw [gR_at hf (by omega), if_pos (by omega), next_eq]
      simp
  exact key (n - 1) (by omega)
theorem ring_ne {n p : Nat} (hn : 2 ≤ n) (hp : p < n) : (p + 1) % n ≠ p := by
  rcases Nat.lt_or_ge (p + 1) n with h | h
  · rw [Nat.mod_eq_of_lt h]; omega
  · rw [show p + 1 = n by omega, Nat.mod_self]; omega
section laws
variable (W0 : World)
theorem ring_out (n f : Int) (h : ¬ (2 ≤ n ∧ n ≤ 8 ∧ 0 ≤ f)) : FnS Try.prog W0 7 #[.int .i64 n, .int .i64 f] [] (fun e _ => e = .returned (.bool true)) := by
  refine FnS.of (args := [.int .i64 n, .int .i64 f]) Try.func7 rfl rfl ?_
  refine C.seq ?_
  refine C.region ?_
  refine G.assignB rfl trivial rfl rfl rfl ?_
  refine G.nil ?_
  refine C.seq ?_
  refine C.region ?_
  refine G.call E8 rfl rfl trivial rfl rfl (tbegun_spec W0 _) rfl ?_
  rintro e L2 ⟨rfl, rfl⟩
  refine G.assignB rfl trivial rfl rfl rfl ?_
  refine G.nil ?_
  refine C.seq ?_
  refine C.seq ?_
  refine C.region ?_
  refine G.moveB rfl trivial rfl rfl rfl ?_
  first | refine G.notD rfl trivial rfl rfl rfl ?_ | refine G.not rfl trivial rfl rfl rfl ?_
  refine G.nil ?_
  refine C.condF rfl ?_
  refine C.skip ?_
  refine C.seq ?_
  refine C.seq ?_
  refine C.region ?_
  refine G.moveI rfl trivial rfl rfl rfl ?_
  refine G.bin rfl trivial rfl rfl rfl rfl rfl ?_
  refine G.moveB rfl trivial rfl rfl rfl ?_
  refine G.fork (t := 16) _ rfl ?_ ?_
  · intro hg16
    refine G.skip rfl rfl rfl rfl rfl rfl ?_
    refine G.skip rfl rfl rfl rfl rfl rfl ?_
    first | refine G.pickT rfl trivial rfl rfl rfl rfl ?_ | refine G.pickF rfl trivial rfl rfl rfl rfl ?_
    refine G.moveB rfl trivial rfl rfl rfl ?_
    refine G.skip rfl rfl rfl rfl rfl rfl ?_
    refine G.skip rfl rfl rfl rfl rfl rfl ?_
    first | refine G.pickT rfl trivial rfl rfl rfl rfl ?_ | refine G.pickF rfl trivial rfl rfl rfl rfl ?_
    refine G.nil ?_
    refine C.condT rfl ?_
    refine C.seq ?_
    refine C.region ?_
    refine G.assignB rfl trivial rfl rfl rfl ?_
    refine G.nil ?_
    refine C.ret ?_
    -- end g16T
    exact ⟨rfl, _, Res.of (rs := [.tmp 4]) rfl rfl, rfl⟩
  · intro hg16
    refine G.moveI rfl ⟨_, rfl, rfl, rfl⟩ rfl rfl rfl ?_
    refine G.bin rfl ⟨_, rfl, rfl, rfl⟩ rfl rfl rfl rfl rfl ?_
    first | refine G.pickT rfl trivial rfl rfl rfl rfl ?_ | refine G.pickF rfl trivial rfl rfl rfl rfl ?_
    refine G.moveB rfl trivial rfl rfl rfl ?_
    refine G.fork (t := 20) _ rfl ?_ ?_
    · intro hg20
      refine G.skip rfl rfl rfl rfl rfl rfl ?_
      refine G.skip rfl rfl rfl rfl rfl rfl ?_
      first | refine G.pickT rfl trivial rfl rfl rfl rfl ?_ | refine G.pickF rfl trivial rfl rfl rfl rfl ?_
      refine G.nil ?_
      refine C.condT rfl ?_
      refine C.seq ?_
      refine C.region ?_
      refine G.assignB rfl trivial rfl rfl rfl ?_
      refine G.nil ?_
      refine C.ret ?_
      -- end g16Fg20T
      exact ⟨rfl, _, Res.of (rs := [.tmp 4]) rfl rfl, rfl⟩
    · intro hg20
      refine G.moveI rfl ⟨_, rfl, rfl, rfl⟩ rfl rfl rfl ?_
      refine G.bin rfl ⟨_, rfl, rfl, rfl⟩ rfl rfl rfl rfl rfl ?_
      first | refine G.pickT rfl trivial rfl rfl rfl rfl ?_ | refine G.pickF rfl trivial rfl rfl rfl rfl ?_
      refine G.nil ?_
      refine C.yes rfl (by omega) ?_
      refine C.seq ?_
      refine C.region ?_
      refine G.assignB rfl trivial rfl rfl rfl ?_
      refine G.nil ?_
      refine C.ret ?_
      -- end g16Fg20F
      exact ⟨rfl, _, Res.of (rs := [.tmp 4]) rfl rfl, rfl⟩
theorem ring_in (n f : Nat) (hn : 2 ≤ n) (hn8 : n ≤ 8) (hf : f ≤ 9223372036854775807) : FnS Try.prog W0 7 #[.int .i64 n, .int .i64 f] [] (fun e _ => e = .returned (.bool true)) := by
  have hfm : f % n < n := Nat.mod_lt _ (by omega)
  refine FnS.of (args := [.int .i64 (n : Int), .int .i64 (f : Int)]) Try.func7 rfl rfl ?_
  refine C.seq ?_
  refine C.region ?_
  refine G.assignB rfl trivial rfl rfl rfl ?_
  refine G.nil ?_
  refine C.seq ?_
  refine C.region ?_
  refine G.call E8 rfl rfl trivial rfl rfl (tbegun_spec W0 _) rfl ?_
  rintro e L2 ⟨rfl, rfl⟩
  refine G.assignB rfl trivial rfl rfl rfl ?_
  refine G.nil ?_
  refine C.seq ?_
  refine C.seq ?_
  refine C.region ?_
  refine G.moveB rfl trivial rfl rfl rfl ?_
  first | refine G.notD rfl trivial rfl rfl rfl ?_ | refine G.not rfl trivial rfl rfl rfl ?_
  refine G.nil ?_
  refine C.condF rfl ?_
  refine C.skip ?_
  refine C.seq ?_
  refine C.seq ?_
  refine C.region ?_
  refine G.moveI rfl trivial rfl rfl rfl ?_
  refine G.bin rfl trivial rfl rfl rfl rfl rfl ?_
  refine G.moveB rfl trivial rfl rfl rfl ?_
  refine G.no (t := 16) rfl (by omega) ?_
  refine G.moveI rfl ⟨_, rfl, rfl, rfl⟩ rfl rfl rfl ?_
  refine G.bin rfl ⟨_, rfl, rfl, rfl⟩ rfl rfl rfl rfl rfl ?_
  first | refine G.pickT rfl trivial rfl rfl rfl rfl ?_ | refine G.pickF rfl trivial rfl rfl rfl rfl ?_
  refine G.moveB rfl trivial rfl rfl rfl ?_
  refine G.no (t := 20) rfl (by omega) ?_
  refine G.moveI rfl ⟨_, rfl, rfl, rfl⟩ rfl rfl rfl ?_
  refine G.bin rfl ⟨_, rfl, rfl, rfl⟩ rfl rfl rfl rfl rfl ?_
  first | refine G.pickT rfl trivial rfl rfl rfl rfl ?_ | refine G.pickF rfl trivial rfl rfl rfl rfl ?_
  refine G.nil ?_
  refine C.no rfl (by omega) ?_
  refine C.skip ?_
  refine C.seq ?_
  refine C.region ?_
  refine G.call E9 rfl rfl trivial rfl rfl (tnew_spec W0 _) rfl ?_
  rintro e L2 ⟨bt, s1, h1s, rfl, rfl⟩
  refine G.assignP rfl trivial rfl rfl rfl ?_
  refine G.nil ?_
  refine C.seq ?_
  refine C.seq ?_
  refine C.region ?_
  refine G.assignI rfl trivial rfl rfl rfl ?_
  refine G.nil ?_
  refine C.block ?_
  refine C.loop (fun m F D' L' => ∃ (i : Nat) (s : Seg), m = n - i + 0 ∧ i ≤ n ∧ TxIs bt (idsN 1 i) (lsR i) (fun _ => []) i s ∧ F 0 = .int .i64 (n : Int) ∧ F 1 = .int .i64 (f : Int) ∧ F 6 = .pointer (some ⟨bt, 0, none⟩) ∧ F 7 = .int .i64 (i : Int) ∧ D' = [] ∧ s :: [] = L') ⟨_, ⟨0, s1, rfl, Nat.zero_le _, h1s, rfl, rfl, rfl, rfl, rfl, rfl⟩⟩ ?_
  rintro m F D' L' ⟨i, s, rfl, hi, hs, h0, h1', h6, h7, rfl, rfl⟩
  refine C.fix (d := 0) h0 ?_
  refine C.fix (d := 1) h1' ?_
  refine C.fix (d := 6) h6 ?_
  refine C.fix (d := 7) h7 ?_
  refine C.seq ?_
  refine C.seq ?_
  refine C.region ?_
  refine G.moveI rfl trivial rfl rfl rfl ?_
  refine G.moveI rfl trivial rfl rfl rfl ?_
  refine G.bin rfl trivial rfl rfl rfl rfl rfl ?_
  refine G.nil ?_
  refine C.cond _ rfl ?_ ?_
  · intro hc2
    have e1 : ((i + 1 : Nat) : Int) = ((1 + i : Nat) : Int) := by omega
    have hg0 : setG (fun _ => []) ((i + 1 : Nat) : Int) [] = fun _ => [] := by funext v; unfold setG; split <;> rfl
    refine C.skip ?_
    refine C.seq ?_
    refine C.block ?_
    refine C.seq ?_
    refine C.region ?_
    refine G.moveP rfl trivial rfl rfl rfl ?_
    refine G.moveI rfl trivial rfl rfl rfl ?_
    refine G.addN (j := 1) rfl trivial rfl rfl rfl rfl (by omega) ?_
    refine G.call E11 rfl rfl trivial rfl rfl (tbegin_val W0 bt [] (idsN 1 i) (lsR i) (fun _ => []) i s hs (idsN_up 1 i) (by rw [idsN_len]; omega) ((i + 1 : Nat) : Int) 0 (by rw [e1, idsN_begin (by omega) (by omega) (by omega), if_neg (by omega)]) (idsN 1 (i + 1)) (by rw [if_pos rfl, e1, idsN_ins])) rfl ?_
    rintro e L2 ⟨s2, h2s, rfl, rfl⟩
    refine G.bin rfl trivial rfl rfl rfl rfl rfl ?_
    refine G.moveB rfl trivial rfl rfl rfl ?_
    refine G.no (t := 35) rfl (by decide) ?_
    refine G.moveP rfl ⟨_, rfl, rfl, rfl⟩ rfl rfl rfl ?_
    refine G.moveI rfl ⟨_, rfl, rfl, rfl⟩ rfl rfl rfl ?_
    refine G.addN (j := 1) rfl ⟨_, rfl, rfl, rfl⟩ rfl rfl rfl rfl (by omega) ?_
    refine G.moveI rfl ⟨_, rfl, rfl, rfl⟩ rfl rfl rfl ?_
    refine G.addN (i := 97) rfl ⟨_, rfl, rfl, rfl⟩ rfl rfl rfl rfl (by omega) ?_
    refine G.convInt rfl ⟨_, rfl, rfl, rfl⟩ rfl rfl Try.underlying3 Try.underlying5 rfl ?_
    refine G.fix (d := 41) (v := .int .u8 ((UInt8.ofNat (97 + i)).toNat : Int)) (u8_ofN _) ?_
    refine G.buildSliceL (cs := [.int .u8 ((UInt8.ofNat (97 + i)).toNat : Int)]) (zs := [(.int .u8 0)]) rfl ⟨_, rfl, rfl, rfl⟩ rfl rfl Try.underlying48 I5 rfl (by kernel_rfl) rfl rfl ?_
    intro b42
    refine G.bytesStr [UInt8.ofNat (97 + i)] rfl ⟨_, rfl, rfl, rfl⟩ rfl rfl Try.underlying48 Try.underlying5 Try.underlying9 rfl rfl (Rd.row0 .here) ?_
    refine G.call E13 rfl rfl ⟨_, rfl, rfl, rfl⟩ rfl rfl (FnS.perm (tlock_ok W0 bt ([(b42, .row [.int .u8 ((UInt8.ofNat (97 + i)).toNat : Int)] 5 1)] :: []) (idsN 1 (i + 1)) (lsR i) (lsR (i + 1)) (fun _ => []) i s2 h2s (by rw [idsN_len]; omega) (by rw [lsR_len]; omega) (by omega) ((i + 1 : Nat) : Int) 2 (kR i) (idsN_mem.2 ⟨i, by omega, e1⟩) (by decide) (by rw [e1]; exact lsR_free (by omega)) (by rw [e1]; exact lsR_lock (by omega))) P2) rfl ?_
    rintro e L2 ⟨s3, h3s, rfl, rfl⟩
    rw [hg0] at h3s
    refine G.bin rfl ⟨_, rfl, rfl, rfl⟩ rfl rfl rfl rfl rfl ?_
    first | refine G.pickT rfl trivial rfl rfl rfl rfl ?_ | refine G.pickF rfl trivial rfl rfl rfl rfl ?_
    refine G.nil ?_
    refine C.no rfl (by decide) ?_
    refine C.skip ?_
    refine C.region ?_
    refine G.moveI rfl trivial rfl rfl rfl ?_
    refine G.addN (j := 1) rfl trivial rfl rfl rfl rfl (by omega) ?_
    refine G.assignI rfl trivial rfl rfl rfl ?_
    refine G.less (L' := s3 :: []) (fun _ h => h.fewer (by simp)) ?_
    refine G.nil ?_
    exact ⟨n - (i + 1) + 0, by omega, i + 1, s3, rfl, by omega, h3s, rfl, rfl, rfl, rfl, rfl, rfl⟩
  · intro hc2
    obtain rfl : i = n := by omega
    have hg0 : (fun _ => []) = gR (f % i) i 0 := by funext v; unfold gR; rw [if_neg (by omega)]
    rw [hg0] at hs
    refine C.exit ?_
    refine C.seq ?_
    refine C.seq ?_
    refine C.region ?_
    refine G.assignI rfl trivial rfl rfl rfl ?_
    refine G.nil ?_
    refine C.block ?_
    refine C.loop (fun m F D' L' => ∃ (k : Nat) (s : Seg), m = i - k + 0 ∧ k ≤ i ∧ ∃ g, (k < i → g = gR (f % i) i k) ∧ TxIs bt (idsN 1 i) (lsR i) g (i + k) s ∧ F 0 = .int .i64 (i : Int) ∧ F 1 = .int .i64 (f : Int) ∧ F 6 = .pointer (some ⟨bt, 0, none⟩) ∧ F 8 = .int .i64 (k : Int) ∧ D' = [] ∧ s :: [] = L') ⟨_, ⟨0, s, rfl, Nat.zero_le _, _, fun _ => rfl, hs, rfl, rfl, rfl, rfl, rfl, rfl⟩⟩ ?_
    rintro m F D' L' ⟨k, s, rfl, hk, g, hg, hs, h0, h1', h6, h8, rfl, rfl⟩
    refine C.fix (d := 0) h0 ?_
    refine C.fix (d := 1) h1' ?_
    refine C.fix (d := 6) h6 ?_
    refine C.fix (d := 8) h8 ?_
    refine C.seq ?_
    refine C.seq ?_
    refine C.region ?_
    refine G.moveI rfl trivial rfl rfl rfl ?_
    refine G.moveI rfl trivial rfl rfl rfl ?_
    refine G.bin rfl trivial rfl rfl rfl rfl rfl ?_
    refine G.nil ?_
    refine C.cond _ rfl ?_ ?_
    · intro hc4
      have hklt : k < i := by omega
      obtain rfl := hg hklt
      have hmk : (f % i + k) % i < i := Nat.mod_lt _ (by omega)
      have hmk2 : ((f % i + k) % i + 1) % i < i := Nat.mod_lt _ (by omega)
      refine C.skip ?_
      refine C.seq ?_
      refine C.block ?_
      refine C.seq ?_
      refine C.region ?_
      refine G.moveI rfl trivial rfl rfl rfl ?_
      refine G.moveI rfl trivial rfl rfl rfl ?_
      refine G.rem rfl trivial rfl rfl rfl rfl (by omega) ?_
      refine G.fix (d := 54) (v := .int .i64 ((f % i : Nat) : Int)) rfl ?_
      refine G.moveI rfl trivial rfl rfl rfl ?_
      refine G.addN rfl trivial rfl rfl rfl rfl (by omega) ?_
      refine G.moveI rfl trivial rfl rfl rfl ?_
      refine G.rem rfl trivial rfl rfl rfl rfl (by omega) ?_
      refine G.fix (d := 58) (v := .int .i64 (((f % i + k) % i : Nat) : Int)) rfl ?_
      refine G.assignI rfl trivial rfl rfl rfl ?_
      refine G.nil ?_
      refine C.seq ?_
      refine C.region ?_
      refine G.assignI rfl trivial rfl rfl rfl ?_
      refine G.nil ?_
      refine C.cut (fun F D' L' => ∃ w : Int, w = (if k + 1 = i then 11 else 10) ∧ F 0 = .int .i64 (i : Int) ∧ F 1 = .int .i64 (f : Int) ∧ F 6 = .pointer (some ⟨bt, 0, none⟩) ∧ F 8 = .int .i64 (k : Int) ∧ F 9 = .int .i64 (((f % i + k) % i : Nat) : Int) ∧ F 10 = .int .i64 w ∧ D' = [] ∧ s :: [] = L') ?_ ?_
      ·
        refine C.seq ?_
        refine C.region ?_
        refine G.moveI rfl trivial rfl rfl rfl ?_
        refine G.moveI rfl trivial rfl rfl rfl ?_
        refine G.subN (j := 1) rfl trivial rfl rfl rfl rfl (by omega) ?_
        refine G.bin rfl trivial rfl rfl rfl rfl rfl ?_
        refine G.nil ?_
        refine C.cond _ rfl ?_ ?_
        · intro hc5
          refine C.region ?_
          refine G.assignI rfl trivial rfl rfl rfl ?_
          refine G.nil ?_
          exact ⟨11, by rw [if_pos (by omega)], rfl, rfl, rfl, rfl, rfl, rfl, rfl, rfl⟩
        · intro hc5
          refine C.skip ?_
          exact ⟨10, by rw [if_neg (by omega)], rfl, rfl, rfl, rfl, rfl, rfl, rfl, rfl⟩
      ·
        rintro F D' L' ⟨w, hw, h0, h1', h6, h8, h9, h10, rfl, rfl⟩
        refine C.fix (d := 0) h0 ?_
        refine C.fix (d := 1) h1' ?_
        refine C.fix (d := 6) h6 ?_
        refine C.fix (d := 8) h8 ?_
        refine C.fix (d := 9) h9 ?_
        refine C.fix (d := 10) h10 ?_
        refine C.seq ?_
        refine C.region ?_
        refine G.moveP rfl trivial rfl rfl rfl ?_
        refine G.moveI rfl trivial rfl rfl rfl ?_
        refine G.addN (j := 1) rfl trivial rfl rfl rfl rfl (by omega) ?_
        refine G.moveI rfl trivial rfl rfl rfl ?_
        refine G.addN (j := 1) rfl trivial rfl rfl rfl rfl (by omega) ?_
        refine G.moveI rfl trivial rfl rfl rfl ?_
        refine G.rem rfl trivial rfl rfl rfl rfl (by omega) ?_
        refine G.fix (d := 69) (v := .int .i64 ((((f % i + k) % i + 1) % i : Nat) : Int)) rfl ?_
        refine G.addN (i := 97) rfl trivial rfl rfl rfl rfl (by omega) ?_
        refine G.convInt rfl trivial rfl rfl Try.underlying3 Try.underlying5 rfl ?_
        refine G.fix (d := 71) (v := .int .u8 ((UInt8.ofNat (97 + ((f % i + k) % i + 1) % i)).toNat : Int)) (u8_ofN _) ?_
        refine G.buildSliceL (cs := [.int .u8 ((UInt8.ofNat (97 + ((f % i + k) % i + 1) % i)).toNat : Int)]) (zs := [(.int .u8 0)]) rfl trivial rfl rfl Try.underlying48 I5 rfl (by kernel_rfl) rfl rfl ?_
        intro b72
        refine G.bytesStr [UInt8.ofNat (97 + ((f % i + k) % i + 1) % i)] rfl trivial rfl rfl Try.underlying48 Try.underlying5 Try.underlying9 rfl rfl (Rd.row0 .here) ?_
        have e2 : (((f % i + k) % i + 1 : Nat) : Int) = ((1 + (f % i + k) % i : Nat) : Int) := by omega
        have e3 : ((f % i + k) % i + 1) % i = (1 + (f % i + k) % i) % i := by rw [Nat.add_comm]
        have hne : (1 + (f % i + k) % i) % i ≠ (f % i + k) % i := by rw [Nat.add_comm]; exact ring_ne hn hmk
        by_cases hkn : k + 1 < i
        ·
          refine G.call E13 rfl rfl trivial rfl rfl (FnS.perm (tlock_wait W0 bt ([(b72, .row [.int .u8 ((UInt8.ofNat (97 + ((f % i + k) % i + 1) % i)).toNat : Int)] 5 1)] :: []) (idsN 1 i) (lsR i) (gR (f % i) i k) (i + k) s hs (by rw [idsN_len]; omega) (by rw [lsR_len]; omega) (by omega) (((f % i + k) % i + 1 : Nat) : Int) 1 (kR (((f % i + k) % i + 1) % i)) (idsN_mem.2 ⟨(f % i + k) % i, hmk, e2⟩) (by decide) [((1 + (1 + (f % i + k) % i) % i : Nat) : Int)] (by simp) (by rw [e2, e3]; exact lsR_read hn8 hmk (by rw [← e3]; exact hmk2) hne) (by rw [e2]; exact ring_free hfm hn hkn)) P2) rfl ?_
          rintro e L2 ⟨s3, h3s, rfl, rfl⟩
          rw [e2, show insAll [((1 + (1 + (f % i + k) % i) % i : Nat) : Int)] = [((1 + (1 + (f % i + k) % i) % i : Nat) : Int)] from rfl, gR_set hfm hklt] at h3s
          refine G.moveI rfl trivial rfl rfl rfl ?_
          refine G.bin rfl trivial rfl rfl rfl rfl rfl ?_
          refine G.nil ?_
          refine C.no rfl (by rw [hw, if_neg (by omega)]; decide) ?_
          refine C.skip ?_
          refine C.region ?_
          refine G.moveI rfl trivial rfl rfl rfl ?_
          refine G.addN (j := 1) rfl trivial rfl rfl rfl rfl (by omega) ?_
          refine G.assignI rfl trivial rfl rfl rfl ?_
          refine G.less (L' := s3 :: []) (fun _ h => h.fewer (by simp)) ?_
          refine G.nil ?_
          exact ⟨i - (k + 1) + 0, by omega, k + 1, s3, rfl, by omega, _, fun _ => rfl, h3s, rfl, rfl, rfl, rfl, rfl, rfl⟩
        ·
          obtain rfl : k = i - 1 := by omega
          refine G.call E13 rfl rfl trivial rfl rfl (FnS.perm (tlock_vict W0 bt ([(b72, .row [.int .u8 ((UInt8.ofNat (97 + ((f % i + (i - 1)) % i + 1) % i)).toNat : Int)] 5 1)] :: []) (idsN 1 i) (lsR i) (gR (f % i) i (i - 1)) (i + (i - 1)) s hs (by rw [idsN_len]; omega) (by rw [lsR_len]; omega) (by omega) (((f % i + (i - 1)) % i + 1 : Nat) : Int) 1 (kR (((f % i + (i - 1)) % i + 1) % i)) (idsN_mem.2 ⟨(f % i + (i - 1)) % i, hmk, e2⟩) (by decide) [((1 + (1 + (f % i + (i - 1)) % i) % i : Nat) : Int)] (by simp) (by rw [e2, e3]; exact lsR_read hn8 hmk (by rw [← e3]; exact hmk2) hne) (by rw [e2]; exact ring_all hfm hn)) P2) rfl ?_
          rintro e L2 ⟨s3, h3s, rfl, rfl⟩
          refine G.moveI rfl trivial rfl rfl rfl ?_
          refine G.bin rfl trivial rfl rfl rfl rfl rfl ?_
          refine G.nil ?_
          refine C.no rfl (by rw [hw, if_pos (by omega)]; decide) ?_
          refine C.skip ?_
          refine C.region ?_
          refine G.moveI rfl trivial rfl rfl rfl ?_
          refine G.addN (j := 1) rfl trivial rfl rfl rfl rfl (by omega) ?_
          refine G.assignI rfl trivial rfl rfl rfl ?_
          refine G.less (L' := s3 :: []) (fun _ h => h.fewer (by simp)) ?_
          refine G.nil ?_
          exact ⟨i - (i - 1 + 1) + 0, by omega, i - 1 + 1, s3, rfl, by omega, _, fun h => absurd h (by omega), h3s, rfl, rfl, rfl, rfl, rfl, rfl⟩
    · intro hc4
      refine C.exit ?_
      refine C.seq ?_
      refine C.region ?_
      refine G.moveP rfl trivial rfl rfl rfl ?_
      refine G.call E18 rfl rfl trivial rfl rfl (tlist_spec W0 bt [] (idsN 1 i) (lsR i) _ _ s hs (by rw [idsN_len]; omega)) rfl ?_
      rintro e L2 ⟨a78, c78, s78, hv78, rfl, rfl⟩
      refine G.lenSlice rfl trivial rfl rfl Try.underlying27 rfl ?_
      refine G.moveI rfl trivial rfl rfl rfl ?_
      refine G.bin rfl trivial rfl rfl rfl rfl rfl ?_
      refine G.assignB rfl trivial rfl rfl rfl ?_
      refine G.nil ?_
      refine C.ret ?_
      -- end c2Fc4F
      exact ⟨rfl, _, Res.of (rs := [.tmp 4]) rfl rfl, by show Ending.returned (Value.bool (decide _)) = _; rw [idsN_len]; simp⟩
end laws
end Go.Proofs.Ytomiidlbfcfpiaa
