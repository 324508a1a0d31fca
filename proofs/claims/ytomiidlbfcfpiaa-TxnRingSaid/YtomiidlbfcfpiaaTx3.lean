/-
  Transactions: begun, TxnNone, TxnMany, TxnFree walked.
-/
import Derived.Test.YtomiidlbfcfpiaaTx2
namespace Go.Proofs.Ytomiidlbfcfpiaa
open Go Go.SL Go.RowKit Go.Sort

section txn
variable (W0 : World) (bt : Nat)
theorem tlock_ok (L : List Seg) (ids : List Int) (ls ls' : List One) (g : Int → List Int) (N : Nat) (s : Seg) (h : TxIs bt ids ls g N s) (hl : ids.length ≤ 1000) (hls : ls.length ≤ 900) (hN : N ≤ 1000) (id mo : Int) (k : ByteArray) (hin : id ∈ ids) (hmo : 1 ≤ mo ∧ mo ≤ 3) (hon : onL (lockOf id mo k) ls = []) (hls' : locked (lockOf id mo k) ls = ls') :
    FnS Try.prog W0 13 #[.pointer (some ⟨bt, 0, none⟩), .int .i64 id, .int .i64 mo, .string k] (s :: L) (fun e L' => ∃ s', TxIs bt ids ls' (setG g id []) (N + 1) s' ∧ L' = s' :: L ∧ e = .returned (.int .i64 0)) :=
  (tlock_spec W0 bt L ids ls g N s h hl hls hN id mo k).mono fun e L' ⟨r, ls2, g2, s', hr, h1, h2, h3⟩ => by
    rcases hr with ⟨a, _⟩ | ⟨_, a, _⟩ | ⟨_, _, _, rfl, rfl, rfl⟩ | ⟨_, _, a, _⟩ | ⟨_, _, a, _⟩
    · exact absurd hin a
    · exact absurd hmo a
    · subst hls'; exact ⟨s', h1, h2, h3⟩
    · exact absurd hon a
    · exact absurd hon a
theorem tlock_wait (L : List Seg) (ids : List Int) (ls : List One) (g : Int → List Int) (N : Nat) (s : Seg) (h : TxIs bt ids ls g N s) (hl : ids.length ≤ 1000) (hls : ls.length ≤ 900) (hN : N ≤ 1000) (id mo : Int) (k : ByteArray) (hin : id ∈ ids) (hmo : 1 ≤ mo ∧ mo ≤ 3) (on : List Int) (hne : on ≠ []) (hon : onL (lockOf id mo k) ls = on) (hno : ¬ Rch g (insAll on) id) :
    FnS Try.prog W0 13 #[.pointer (some ⟨bt, 0, none⟩), .int .i64 id, .int .i64 mo, .string k] (s :: L) (fun e L' => ∃ s', TxIs bt ids ls (setG g id (insAll on)) (N + 1) s' ∧ L' = s' :: L ∧ e = .returned (.int .i64 10)) :=
  (tlock_spec W0 bt L ids ls g N s h hl hls hN id mo k).mono fun e L' ⟨r, ls2, g2, s', hr, h1, h2, h3⟩ => by
    subst hon
    rcases hr with ⟨a, _⟩ | ⟨_, a, _⟩ | ⟨_, _, a, _⟩ | ⟨_, _, _, a, _⟩ | ⟨_, _, _, _, rfl, rfl, rfl⟩
    · exact absurd hin a
    · exact absurd hmo a
    · exact absurd a hne
    · exact absurd a hno
    · exact ⟨s', h1, h2, h3⟩
theorem tlock_vict (L : List Seg) (ids : List Int) (ls : List One) (g : Int → List Int) (N : Nat) (s : Seg) (h : TxIs bt ids ls g N s) (hl : ids.length ≤ 1000) (hls : ls.length ≤ 900) (hN : N ≤ 1000) (id mo : Int) (k : ByteArray) (hin : id ∈ ids) (hmo : 1 ≤ mo ∧ mo ≤ 3) (on : List Int) (hne : on ≠ []) (hon : onL (lockOf id mo k) ls = on) (hyes : Rch g (insAll on) id) :
    FnS Try.prog W0 13 #[.pointer (some ⟨bt, 0, none⟩), .int .i64 id, .int .i64 mo, .string k] (s :: L) (fun e L' => ∃ s', TxIs bt ids ls g (N + 1) s' ∧ L' = s' :: L ∧ e = .returned (.int .i64 11)) :=
  (tlock_spec W0 bt L ids ls g N s h hl hls hN id mo k).mono fun e L' ⟨r, ls2, g2, s', hr, h1, h2, h3⟩ => by
    subst hon
    rcases hr with ⟨a, _⟩ | ⟨_, a, _⟩ | ⟨_, _, a, _⟩ | ⟨_, _, _, _, rfl, rfl, rfl⟩ | ⟨_, _, _, a, _⟩
    · exact absurd hin a
    · exact absurd hmo a
    · exact absurd a hne
    · exact ⟨s', h1, h2, h3⟩
    · exact absurd hyes a
theorem tlock_who (L : List Seg) (ids : List Int) (ls : List One) (g : Int → List Int) (N : Nat) (s : Seg) (h : TxIs bt ids ls g N s) (hl : ids.length ≤ 1000) (hls : ls.length ≤ 900) (hN : N ≤ 1000) (id mo : Int) (k : ByteArray) (hin : id ∉ ids) :
    FnS Try.prog W0 13 #[.pointer (some ⟨bt, 0, none⟩), .int .i64 id, .int .i64 mo, .string k] (s :: L) (fun e L' => ∃ s', TxIs bt ids ls g (N + 1) s' ∧ L' = s' :: L ∧ e = .returned (.int .i64 6)) :=
  (tlock_spec W0 bt L ids ls g N s h hl hls hN id mo k).mono fun e L' ⟨r, ls2, g2, s', hr, h1, h2, h3⟩ => by
    rcases hr with ⟨_, rfl, rfl, rfl⟩ | ⟨a, _⟩ | ⟨a, _⟩ | ⟨a, _⟩ | ⟨a, _⟩
    · exact ⟨s', h1, h2, h3⟩
    all_goals exact absurd a hin
/-- given or not: what is locked then -/
theorem tlock_any (L : List Seg) (ids : List Int) (ls : List One) (g : Int → List Int) (N : Nat) (s : Seg) (h : TxIs bt ids ls g N s) (hl : ids.length ≤ 1000) (hls : ls.length ≤ 900) (hN : N ≤ 1000) (id mo : Int) (k : ByteArray) (hin : id ∈ ids) (hmo : 1 ≤ mo ∧ mo ≤ 3) :
    FnS Try.prog W0 13 #[.pointer (some ⟨bt, 0, none⟩), .int .i64 id, .int .i64 mo, .string k] (s :: L) (fun e L' => ∃ r g' s', (r = 0 ↔ onL (lockOf id mo k) ls = []) ∧ TxIs bt ids (locked (lockOf id mo k) ls) g' (N + 1) s' ∧ L' = s' :: L ∧ e = .returned (.int .i64 r)) :=
  (tlock_spec W0 bt L ids ls g N s h hl hls hN id mo k).mono fun e L' ⟨r, ls2, g2, s', hr, h1, h2, h3⟩ => by
    rcases hr with ⟨a, _⟩ | ⟨_, a, _⟩ | ⟨_, _, a, rfl, rfl, rfl⟩ | ⟨_, _, a, _, rfl, rfl, rfl⟩ | ⟨_, _, a, _, rfl, rfl, rfl⟩
    · exact absurd hin a
    · exact absurd hmo a
    · exact ⟨0, _, s', ⟨fun _ => a, fun _ => rfl⟩, h1, h2, h3⟩
    · exact ⟨11, _, s', ⟨fun h => absurd h (by decide), fun h => absurd h a⟩, by rw [locked_no a]; exact h1, h2, h3⟩
    · exact ⟨10, _, s', ⟨fun h => absurd h (by decide), fun h => absurd h a⟩, by rw [locked_no a]; exact h1, h2, h3⟩
theorem tbegin_val (L : List Seg) (ids : List Int) (ls : List One) (g : Int → List Int) (N : Nat) (s : Seg) (h : TxIs bt ids ls g N s) (hup : ids.Pairwise (· < ·)) (hl : ids.length ≤ 1000) (id : Int) (r : Int) (hr : beginC ids id = r) (ids' : List Int) (hi : (if r = 0 then insL ids id else ids) = ids') : FnS Try.prog W0 11 #[.pointer (some ⟨bt, 0, none⟩), .int .i64 id] (s :: L) (fun e L' => ∃ s', TxIs bt ids' ls g N s' ∧ L' = s' :: L ∧ e = .returned (.int .i64 r)) := by
  subst hr
  subst hi
  exact tbegin_spec W0 bt L ids ls g N s h hup hl id
theorem tend_val (L : List Seg) (ids : List Int) (ls : List One) (g : Int → List Int) (N : Nat) (s : Seg) (h : TxIs bt ids ls g N s) (hl : ids.length ≤ 1000) (hls : ls.length ≤ 900) (id : Int) (hin : id ∈ ids) (ids' : List Int) (hi : without id ids = ids') (ls' : List One) (hl' : others id ls = ls') :
    FnS Try.prog W0 15 #[.pointer (some ⟨bt, 0, none⟩), .int .i64 id] (s :: L) (fun e L' => ∃ s', TxIs bt ids' ls' (clearG g id) N s' ∧ L' = s' :: L ∧ e = .returned (.bool true)) :=
  (tend_spec W0 bt L ids ls g N s h hl hls id).mono fun e L' ⟨s', h1, h2, h3⟩ => by
    rw [if_pos hin] at h1
    subst hi
    subst hl'
    exact ⟨s', h1, h2, by rw [h3, decide_eq_true hin]⟩
end txn
abbrev aK : ByteArray := ⟨⟨[97]⟩⟩
abbrev bK : ByteArray := ⟨⟨[98]⟩⟩
abbrev kK : ByteArray := ⟨⟨[107]⟩⟩
abbrev ga : Int → List Int := setG (setG (fun _ => []) 1 []) 2 []
abbrev gb : Int → List Int := setG ga 1 (insAll [2])
theorem t1 : ¬ Rch ga (insAll [2]) 1 := not_rch (sl := [2]) (by decide) (by decide) (by decide)
theorem t2 : Rch gb (insAll [1]) 2 := .step (x := 1) (.base (by decide)) (by decide)
section laws
variable (W0 : World)
theorem tbegun_spec (L : List Seg) : FnS Try.prog W0 8 #[] L (fun e L' => L' = L ∧ e = .returned (.bool true)) := by
  refine FnS.of (args := []) Try.func8 rfl rfl ?_
  refine C.seq ?_
  refine C.region ?_
  refine G.assignB rfl trivial rfl rfl rfl ?_
  refine G.nil ?_
  refine C.seq ?_
  refine C.region ?_
  refine G.call E9 rfl rfl trivial rfl rfl (tnew_spec W0 L) rfl ?_
  rintro e L2 ⟨bt, s1, h1, rfl, rfl⟩
  refine G.assignP rfl trivial rfl rfl rfl ?_
  refine G.nil ?_
  refine C.seq ?_
  refine C.seq ?_
  refine C.region ?_
  refine G.moveP rfl trivial rfl rfl rfl ?_
  refine G.ptrEq rfl trivial rfl rfl Try.underlying24 rfl rfl ?_
  refine G.nil ?_
  refine C.condF rfl ?_
  refine C.skip ?_
  refine C.seq ?_
  refine C.region ?_
  refine G.moveP rfl trivial rfl rfl rfl ?_
  refine G.call E11 rfl rfl trivial rfl rfl (tbegin_val W0 bt L [] [] (fun _ => []) 0 s1 h1 (by decide) (by decide) 1 0 (by decide) [1] (by decide)) rfl ?_
  rintro e L2 ⟨s2, h2, rfl, rfl⟩
  refine G.moveP rfl trivial rfl rfl rfl ?_
  refine G.call E11 rfl rfl trivial rfl rfl (tbegin_val W0 bt L [1] [] (fun _ => []) 0 s2 h2 (by decide) (by decide) 2 0 (by decide) [1, 2] (by decide)) rfl ?_
  rintro e L2 ⟨s3, h3, rfl, rfl⟩
  refine G.moveP rfl trivial rfl rfl rfl ?_
  refine G.call E11 rfl rfl trivial rfl rfl (tbegin_val W0 bt L [1, 2] [] (fun _ => []) 0 s3 h3 (by decide) (by decide) 1 7 (by decide) [1, 2] (by decide)) rfl ?_
  rintro e L2 ⟨s4, h4, rfl, rfl⟩
  refine G.assignI rfl trivial rfl rfl rfl ?_
  refine G.assignI rfl trivial rfl rfl rfl ?_
  refine G.assignI rfl trivial rfl rfl rfl ?_
  refine G.nil ?_
  refine C.seq ?_
  refine C.region ?_
  refine G.moveP rfl trivial rfl rfl rfl ?_
  refine G.call E13 rfl rfl trivial rfl rfl (tlock_ok W0 bt L [1, 2] [] [(1, 2, aK)] (fun _ => []) 0 s4 h4 (by decide) (by decide) (by decide) 1 2 aK (by decide) (by decide) (by rfl) (by rfl)) rfl ?_
  rintro e L2 ⟨s5, h5, rfl, rfl⟩
  refine G.moveP rfl trivial rfl rfl rfl ?_
  refine G.call E13 rfl rfl trivial rfl rfl (tlock_ok W0 bt L [1, 2] [(1, 2, aK)] [(1, 2, aK), (2, 2, bK)] (setG (fun _ => []) 1 []) 1 s5 h5 (by decide) (by decide) (by decide) 2 2 bK (by decide) (by decide) (by rfl) (by rfl)) rfl ?_
  rintro e L2 ⟨s6, h6, rfl, rfl⟩
  refine G.assignI rfl trivial rfl rfl rfl ?_
  refine G.assignI rfl trivial rfl rfl rfl ?_
  refine G.nil ?_
  refine C.seq ?_
  refine C.region ?_
  refine G.moveP rfl trivial rfl rfl rfl ?_
  refine G.call E13 rfl rfl trivial rfl rfl (tlock_wait W0 bt L [1, 2] [(1, 2, aK), (2, 2, bK)] ga 2 s6 h6 (by decide) (by decide) (by decide) 1 2 bK (by decide) (by decide) [2] (by decide) (by rfl) t1) rfl ?_
  rintro e L2 ⟨s7, h7, rfl, rfl⟩
  refine G.moveP rfl trivial rfl rfl rfl ?_
  refine G.call E13 rfl rfl trivial rfl rfl (tlock_vict W0 bt L [1, 2] [(1, 2, aK), (2, 2, bK)] gb 3 s7 h7 (by decide) (by decide) (by decide) 2 2 aK (by decide) (by decide) [1] (by decide) (by rfl) t2) rfl ?_
  rintro e L2 ⟨s8, h8, rfl, rfl⟩
  refine G.assignI rfl trivial rfl rfl rfl ?_
  refine G.assignI rfl trivial rfl rfl rfl ?_
  refine G.nil ?_
  refine C.seq ?_
  refine C.region ?_
  refine G.moveP rfl trivial rfl rfl rfl ?_
  refine G.call E15 rfl rfl trivial rfl rfl (tend_val W0 bt L [1, 2] [(1, 2, aK), (2, 2, bK)] gb 4 s8 h8 (by decide) (by decide) 2 (by decide) [1] (by decide) [(1, 2, aK)] (by rfl)) rfl ?_
  rintro e L2 ⟨s9, h9, rfl, rfl⟩
  refine G.assignB rfl trivial rfl rfl rfl ?_
  refine G.nil ?_
  refine C.seq ?_
  refine C.region ?_
  refine G.moveP rfl trivial rfl rfl rfl ?_
  refine G.call E13 rfl rfl trivial rfl rfl (tlock_ok W0 bt L [1] [(1, 2, aK)] [(1, 2, aK), (1, 2, bK)] (clearG gb 2) 4 s9 h9 (by decide) (by decide) (by decide) 1 2 bK (by decide) (by decide) (by rfl) (by rfl)) rfl ?_
  rintro e L2 ⟨s10, h10, rfl, rfl⟩
  refine G.assignI rfl trivial rfl rfl rfl ?_
  refine G.nil ?_
  refine C.seq ?_
  refine C.region ?_
  refine G.moveP rfl trivial rfl rfl rfl ?_
  refine G.call E18 rfl rfl trivial rfl rfl (tlist_spec W0 bt L [1] _ _ _ s10 h10 (by decide)) rfl ?_
  rintro e L2 ⟨a34, c34, s34, hv34, rfl, rfl⟩
  obtain ⟨bo, co, ko, hoe, rfl, _, _⟩ := hv34.block (by decide)
  cases hoe
  refine G.assignS rfl trivial rfl rfl rfl ?_
  refine G.nil ?_
  refine C.seq ?_
  refine C.region ?_
  refine G.moveI rfl trivial rfl rfl rfl ?_
  refine G.bin rfl trivial rfl rfl rfl rfl rfl ?_
  refine G.moveB rfl trivial rfl rfl rfl ?_
  refine G.moveI rfl ⟨_, rfl, rfl, rfl⟩ rfl rfl rfl ?_
  refine G.bin rfl ⟨_, rfl, rfl, rfl⟩ rfl rfl rfl rfl rfl ?_
  first | refine G.pickT rfl trivial rfl rfl rfl rfl ?_ | refine G.pickF rfl trivial rfl rfl rfl rfl ?_
  refine G.moveB rfl trivial rfl rfl rfl ?_
  refine G.moveI rfl ⟨_, rfl, rfl, rfl⟩ rfl rfl rfl ?_
  refine G.bin rfl ⟨_, rfl, rfl, rfl⟩ rfl rfl rfl rfl rfl ?_
  first | refine G.pickT rfl trivial rfl rfl rfl rfl ?_ | refine G.pickF rfl trivial rfl rfl rfl rfl ?_
  refine G.moveB rfl trivial rfl rfl rfl ?_
  refine G.moveI rfl ⟨_, rfl, rfl, rfl⟩ rfl rfl rfl ?_
  refine G.bin rfl ⟨_, rfl, rfl, rfl⟩ rfl rfl rfl rfl rfl ?_
  first | refine G.pickT rfl trivial rfl rfl rfl rfl ?_ | refine G.pickF rfl trivial rfl rfl rfl rfl ?_
  refine G.moveB rfl trivial rfl rfl rfl ?_
  refine G.moveI rfl ⟨_, rfl, rfl, rfl⟩ rfl rfl rfl ?_
  refine G.bin rfl ⟨_, rfl, rfl, rfl⟩ rfl rfl rfl rfl rfl ?_
  first | refine G.pickT rfl trivial rfl rfl rfl rfl ?_ | refine G.pickF rfl trivial rfl rfl rfl rfl ?_
  refine G.moveB rfl trivial rfl rfl rfl ?_
  refine G.moveI rfl ⟨_, rfl, rfl, rfl⟩ rfl rfl rfl ?_
  refine G.bin rfl ⟨_, rfl, rfl, rfl⟩ rfl rfl rfl rfl rfl ?_
  first | refine G.pickT rfl trivial rfl rfl rfl rfl ?_ | refine G.pickF rfl trivial rfl rfl rfl rfl ?_
  refine G.moveB rfl trivial rfl rfl rfl ?_
  refine G.moveI rfl ⟨_, rfl, rfl, rfl⟩ rfl rfl rfl ?_
  refine G.bin rfl ⟨_, rfl, rfl, rfl⟩ rfl rfl rfl rfl rfl ?_
  first | refine G.pickT rfl trivial rfl rfl rfl rfl ?_ | refine G.pickF rfl trivial rfl rfl rfl rfl ?_
  refine G.moveB rfl trivial rfl rfl rfl ?_
  refine G.moveB rfl ⟨_, rfl, rfl, rfl⟩ rfl rfl rfl ?_
  first | refine G.pickT rfl trivial rfl rfl rfl rfl ?_ | refine G.pickF rfl trivial rfl rfl rfl rfl ?_
  refine G.moveB rfl trivial rfl rfl rfl ?_
  refine G.moveI rfl ⟨_, rfl, rfl, rfl⟩ rfl rfl rfl ?_
  refine G.bin rfl ⟨_, rfl, rfl, rfl⟩ rfl rfl rfl rfl rfl ?_
  first | refine G.pickT rfl trivial rfl rfl rfl rfl ?_ | refine G.pickF rfl trivial rfl rfl rfl rfl ?_
  refine G.moveB rfl trivial rfl rfl rfl ?_
  refine G.moveS rfl ⟨_, rfl, rfl, rfl⟩ rfl rfl rfl ?_
  refine G.lenSlice rfl ⟨_, rfl, rfl, rfl⟩ rfl rfl Try.underlying27 rfl ?_
  refine G.bin rfl ⟨_, rfl, rfl, rfl⟩ rfl rfl rfl rfl rfl ?_
  first | refine G.pickT rfl trivial rfl rfl rfl rfl ?_ | refine G.pickF rfl trivial rfl rfl rfl rfl ?_
  refine G.moveB rfl trivial rfl rfl rfl ?_
  refine G.moveS rfl ⟨_, rfl, rfl, rfl⟩ rfl rfl rfl ?_
  refine G.indexAddr rfl ⟨_, rfl, rfl, rfl⟩ rfl rfl Try.underlying27 I2 rfl rfl (by simp) ?_
  refine G.loadAt (v := .int .i64 1) .here rfl ⟨_, rfl, rfl, rfl⟩ rfl rfl Try.underlying2 rfl rfl rfl ?_
  refine G.bin rfl ⟨_, rfl, rfl, rfl⟩ rfl rfl rfl rfl rfl ?_
  first | refine G.pickT rfl trivial rfl rfl rfl rfl ?_ | refine G.pickF rfl trivial rfl rfl rfl rfl ?_
  refine G.moveB rfl trivial rfl rfl rfl ?_
  refine G.moveP rfl ⟨_, rfl, rfl, rfl⟩ rfl rfl rfl ?_
  refine G.call E13 rfl rfl ⟨_, rfl, rfl, rfl⟩ rfl rfl (FnS.perm (tlock_who W0 bt ([(bo, .row ([1].map (Value.int .i64)) 2 ko)] :: L) [1] _ _ _ s10 h10 (by decide) (by decide) (by decide) 9 1 aK (by decide)) P2) rfl ?_
  rintro e L2 ⟨s11, h11, rfl, rfl⟩
  refine G.bin rfl ⟨_, rfl, rfl, rfl⟩ rfl rfl rfl rfl rfl ?_
  first | refine G.pickT rfl trivial rfl rfl rfl rfl ?_ | refine G.pickF rfl trivial rfl rfl rfl rfl ?_
  refine G.assignB rfl trivial rfl rfl rfl ?_
  refine G.nil ?_
  refine C.less (fun _ h => h.tail.tail) ?_
  refine C.ret ?_
  -- end 
  exact ⟨rfl, _, Res.of (rs := [.tmp 0]) rfl rfl, rfl, rfl⟩
theorem tnone_walk : FnS Try.prog W0 6 #[] [] (fun e _ => e = .returned (.bool true)) := by
  refine FnS.of (args := []) Try.func6 rfl rfl ?_
  refine C.seq ?_
  refine C.region ?_
  refine G.assignB rfl trivial rfl rfl rfl ?_
  refine G.nil ?_
  refine C.seq ?_
  refine C.region ?_
  refine G.assignP rfl trivial rfl rfl rfl ?_
  refine G.nil ?_
  refine C.seq ?_
  refine C.region ?_
  refine G.call E8 rfl rfl trivial rfl rfl (tbegun_spec W0 _) rfl ?_
  rintro e L2 ⟨rfl, rfl⟩
  refine G.moveB rfl trivial rfl rfl rfl ?_
  refine G.moveP rfl ⟨_, rfl, rfl, rfl⟩ rfl rfl rfl ?_
  refine G.call E11 rfl rfl ⟨_, rfl, rfl, rfl⟩ rfl rfl (tbegin_nil W0 _ 1) rfl ?_
  rintro e L2 ⟨rfl, rfl⟩
  refine G.bin rfl ⟨_, rfl, rfl, rfl⟩ rfl rfl rfl rfl rfl ?_
  first | refine G.pickT rfl trivial rfl rfl rfl rfl ?_ | refine G.pickF rfl trivial rfl rfl rfl rfl ?_
  refine G.moveB rfl trivial rfl rfl rfl ?_
  refine G.moveP rfl ⟨_, rfl, rfl, rfl⟩ rfl rfl rfl ?_
  refine G.call E19 rfl rfl ⟨_, rfl, rfl, rfl⟩ rfl rfl (tis_nil W0 _ 1) rfl ?_
  rintro e L2 ⟨rfl, rfl⟩
  first | refine G.notD rfl ⟨_, rfl, rfl, rfl⟩ rfl rfl rfl ?_ | refine G.not rfl ⟨_, rfl, rfl, rfl⟩ rfl rfl rfl ?_
  first | refine G.pickT rfl trivial rfl rfl rfl rfl ?_ | refine G.pickF rfl trivial rfl rfl rfl rfl ?_
  refine G.moveB rfl trivial rfl rfl rfl ?_
  refine G.moveP rfl ⟨_, rfl, rfl, rfl⟩ rfl rfl rfl ?_
  refine G.call E18 rfl rfl ⟨_, rfl, rfl, rfl⟩ rfl rfl (tlist_nil W0 _) rfl ?_
  rintro e L2 ⟨rfl, rfl⟩
  refine G.lenSlice rfl ⟨_, rfl, rfl, rfl⟩ rfl rfl Try.underlying27 rfl ?_
  refine G.bin rfl ⟨_, rfl, rfl, rfl⟩ rfl rfl rfl rfl rfl ?_
  first | refine G.pickT rfl trivial rfl rfl rfl rfl ?_ | refine G.pickF rfl trivial rfl rfl rfl rfl ?_
  refine G.moveB rfl trivial rfl rfl rfl ?_
  refine G.moveP rfl ⟨_, rfl, rfl, rfl⟩ rfl rfl rfl ?_
  refine G.call E13 rfl rfl ⟨_, rfl, rfl, rfl⟩ rfl rfl (tlock_nil W0 _ 1 1 kK) rfl ?_
  rintro e L2 ⟨rfl, rfl⟩
  refine G.bin rfl ⟨_, rfl, rfl, rfl⟩ rfl rfl rfl rfl rfl ?_
  first | refine G.pickT rfl trivial rfl rfl rfl rfl ?_ | refine G.pickF rfl trivial rfl rfl rfl rfl ?_
  refine G.moveB rfl trivial rfl rfl rfl ?_
  refine G.moveP rfl ⟨_, rfl, rfl, rfl⟩ rfl rfl rfl ?_
  refine G.call E15 rfl rfl ⟨_, rfl, rfl, rfl⟩ rfl rfl (tend_nil W0 _ 1) rfl ?_
  rintro e L2 ⟨rfl, rfl⟩
  first | refine G.notD rfl ⟨_, rfl, rfl, rfl⟩ rfl rfl rfl ?_ | refine G.not rfl ⟨_, rfl, rfl, rfl⟩ rfl rfl rfl ?_
  first | refine G.pickT rfl trivial rfl rfl rfl rfl ?_ | refine G.pickF rfl trivial rfl rfl rfl rfl ?_
  refine G.assignB rfl trivial rfl rfl rfl ?_
  refine G.nil ?_
  refine C.ret ?_
  -- end 
  exact ⟨rfl, _, Res.of (rs := [.tmp 0]) rfl rfl, rfl⟩
end laws
end Go.Proofs.Ytomiidlbfcfpiaa
