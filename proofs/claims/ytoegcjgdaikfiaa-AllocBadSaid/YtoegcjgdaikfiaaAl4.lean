/-
  What is in use, plainly; what the laws of alloc begin with; AllocRoot, AllocBits walked.
-/
import Derived.Test.YtoegcjgdaikfiaaAl3
namespace Go.Proofs.Ytoegcjgdaikfiaa
open Go Go.SL Go.RowKit

/-- what the first page says: which are in use, the tree's first one -/
structure Us (pg : Nat → List UInt8) (u : Nat → Bool) (r : Nat) : Prop where
  len : (pg 1).length = 256
  used : ∀ k, k < 32 → usedP (pg 1) k = u k
  root : rootP (pg 1) = r
theorem getD_zero (i : Nat) : zero256[i]?.getD 0 = 0 := by
  unfold zero256
  rw [List.getElem?_replicate]
  split <;> rfl
theorem us_start : Us (bkPage none) (fun _ => false) 0 := by
  refine ⟨zero256_length, fun k _ => ?_, ?_⟩
  · show ub (zero256[k / 8]?.getD 0) (k % 8) = false
    rw [getD_zero]
    exact Nat.zero_testBit _
  · show (zero256[4]?.getD 0).toNat = 0
    rw [getD_zero]
    rfl
theorem updP_same (pg : Nat → List UInt8) (k : Nat) (x : List UInt8) : updP pg k x k = x := by unfold updP; rw [if_pos rfl]
theorem updP_ne (pg : Nat → List UInt8) {k j : Nat} (x : List UInt8) (h : j ≠ k) : updP pg k x j = pg j := by unfold updP; rw [if_neg h]
theorem rootP_set {pb : List UInt8} {k : Nat} {c : UInt8} (hk : k < 4) : rootP (pb.set k c) = rootP pb := by
  unfold rootP
  rw [List.getElem?_set, if_neg (by omega)]
theorem Us.taken {pg : Nat → List UInt8} {u : Nat → Bool} {r : Nat} (h : Us pg u r) {k : Nat} (hk : 2 ≤ k ∧ k < 32) : Us (updP (updP pg 1 (setU (pg 1) k)) k zero256) (fun j => u j || decide (j = k)) r := by
  have e : updP (updP pg 1 (setU (pg 1) k)) k zero256 1 = setU (pg 1) k := by rw [updP_ne _ _ (by omega), updP_same]
  refine ⟨by rw [e, setU_length]; exact h.len, fun j hj => ?_, ?_⟩
  · rw [e, usedP_set h.len hk.2 hj, h.used j hj]
  · rw [e]
    unfold setU
    rw [rootP_set (by omega)]
    exact h.root
theorem Us.freed {pg : Nat → List UInt8} {u : Nat → Bool} {r : Nat} (h : Us pg u r) {k : Nat} (hk : k < 32) : Us (updP pg 1 (clrU (pg 1) k)) (fun j => u j && !decide (j = k)) r := by
  have e : updP pg 1 (clrU (pg 1) k) 1 = clrU (pg 1) k := updP_same _ _ _
  refine ⟨by rw [e, clrU_length]; exact h.len, fun j hj => ?_, ?_⟩
  · rw [e, usedP_clr h.len hk hj, h.used j hj]
  · rw [e]
    unfold clrU
    rw [rootP_set (by omega)]
    exact h.root
theorem Us.rooted {pg : Nat → List UInt8} {u : Nat → Bool} {r : Nat} (h : Us pg u r) {i : Nat} (hi : i < 256) : Us (updP pg 1 ((pg 1).set 4 (UInt8.ofNat i))) u i := by
  have e : updP pg 1 ((pg 1).set 4 (UInt8.ofNat i)) 1 = (pg 1).set 4 (UInt8.ofNat i) := updP_same _ _ _
  refine ⟨by rw [e, List.length_set]; exact h.len, fun j hj => ?_, ?_⟩
  · rw [e, ← h.used j hj]
    unfold usedP
    rw [List.getElem?_set, if_neg (by omega)]
  · rw [e]
    unfold rootP
    rw [List.getElem?_set, if_pos rfl, if_pos (by rw [h.len]; decide), Option.getD_some, UInt8.toNat_ofNat']
    omega
theorem Us.has {pg : Nat → List UInt8} {u : Nat → Bool} {r : Nat} (h : Us pg u r) {k : Nat} (hk : k < 32) : hasB (pg 1) (k : Int) = (decide (2 ≤ k) && u k) := by
  unfold hasB
  rw [Int.toNat_natCast, h.used k hk]
  congr 1
  exact decide_eq_decide.2 (by omega)
theorem countU_of {pb : List UInt8} {v : Nat → Bool} (h : ∀ k : Nat, k < 32 → hasB pb (k : Int) = v k) : ∀ n, n ≤ 32 → countU pb n = (List.range n).countP v
  | 0, _ => rfl
  | n + 1, hn => by
    rw [countU_succ, countU_of h n (by omega), List.range_succ, List.countP_append, List.countP_singleton, h n (by omega)]
section laws
variable (W0 : World)
theorem beganA_spec (L : List Seg) : FnS Try.prog W0 8 #[] L (fun e L' => L' = L ∧ e = .returned (.bool true)) := by
  obtain ⟨p0, hp0⟩ : ∃ p, p = bkPage none := ⟨_, rfl⟩
  have us0 : Us p0 (fun _ => false) 0 := by rw [hp0]; exact us_start
  refine FnS.of (args := []) Try.func8 rfl rfl ?_
  refine C.seq ?_
  refine C.region ?_
  refine G.assignB rfl trivial rfl rfl rfl ?_
  refine G.nil ?_
  refine C.seq ?_
  refine C.region ?_
  refine G.buildL (cs := bkRow none) rfl trivial rfl rfl Try.underlying28 I28 B28 rfl (by kernel_rfl) ?_
  refine G.boxG rfl trivial rfl rfl rfl ?_
  intro bb
  rw [bkRow_length]
  refine G.makeInterface rfl trivial rfl rfl Try.underlying24 rfl ?_
  refine G.call E9 rfl rfl trivial rfl rfl (snew_spec W0 L bb none trivial) rfl ?_
  rintro e L2 ⟨bs, sg0, hsg0, rfl, rfl⟩
  rw [← hp0] at hsg0
  refine G.assignP rfl trivial rfl rfl rfl ?_
  refine G.nil ?_
  refine C.seq ?_
  refine C.region ?_
  refine G.moveP rfl trivial rfl rfl rfl ?_
  refine G.call E10 rfl rfl trivial rfl rfl (take_some W0 [] _ bs p0 sg0 hsg0 us0.len 2 (by decide) (us0.used 2 (by decide)) (fun j h1 h2 => by omega)) rfl ?_
  rintro e L2 ⟨sg1, hsg1, rfl, rfl⟩
  have us1 := us0.taken (k := 2) (by decide)
  generalize updP (updP p0 1 (setU (p0 1) 2)) 2 zero256 = p1 at *
  refine G.moveU rfl trivial rfl rfl rfl ?_
  refine G.extractL rfl trivial rfl rfl rfl rfl ?_
  refine G.extractL rfl trivial rfl rfl rfl rfl ?_
  refine G.assignI rfl trivial rfl rfl rfl ?_
  refine G.assignI rfl trivial rfl rfl rfl ?_
  refine G.nil ?_
  refine C.seq ?_
  refine C.region ?_
  refine G.moveP rfl trivial rfl rfl rfl ?_
  have hall25 : ∀ j, 2 ≤ j → j < 3 → usedP (p1 1) j = true := fun j h1 h2 => by
    have hj : j = 2 := by omega
    rw [hj]
    exact us1.used 2 (by decide)
  refine G.call E10 rfl rfl trivial rfl rfl (take_some W0 [] _ bs p1 sg1 hsg1 us1.len 3 (by decide) (us1.used 3 (by decide)) hall25) rfl ?_
  rintro e L2 ⟨sg2, hsg2, rfl, rfl⟩
  have us2 := us1.taken (k := 3) (by decide)
  generalize updP (updP p1 1 (setU (p1 1) 3)) 3 zero256 = p2 at *
  refine G.moveU rfl trivial rfl rfl rfl ?_
  refine G.extractL rfl trivial rfl rfl rfl rfl ?_
  refine G.extractL rfl trivial rfl rfl rfl rfl ?_
  refine G.assignI rfl trivial rfl rfl rfl ?_
  refine G.assignI rfl trivial rfl rfl rfl ?_
  refine G.nil ?_
  refine C.seq ?_
  refine C.region ?_
  refine G.moveP rfl trivial rfl rfl rfl ?_
  refine G.moveI rfl trivial rfl rfl rfl ?_
  refine G.call E13 rfl rfl trivial rfl rfl (free_ok W0 [] _ bs p2 sg2 hsg2 us2.len 2 (by rw [us2.has (by decide)]; rfl)) rfl ?_
  rintro e L2 ⟨sg3, hsg3, rfl, rfl⟩
  have us3 := us2.freed (k := 2) (by decide)
  generalize updP p2 1 (clrU (p2 1) 2) = p3 at *
  refine G.assignI rfl trivial rfl rfl rfl ?_
  refine G.nil ?_
  refine C.seq ?_
  refine C.region ?_
  refine G.moveP rfl trivial rfl rfl rfl ?_
  refine G.makeInterface rfl trivial rfl rfl Try.underlying29 rfl ?_
  refine G.moveI rfl trivial rfl rfl rfl ?_
  refine G.call E15 rfl rfl trivial rfl rfl (used_spec W0 _ _ _ (p3 1) us3.len (aread_sheet W0 [] _ bs p3 sg3 hsg3) 3) rfl ?_
  rintro e L2 ⟨rfl, rfl⟩
  rw [show hasB (p3 1) 3 = true from (us3.has (k := 3) (by decide)).trans rfl]
  refine G.moveU rfl trivial rfl rfl rfl ?_
  refine G.extractL rfl trivial rfl rfl rfl rfl ?_
  refine G.extractL rfl trivial rfl rfl rfl rfl ?_
  refine G.assignB rfl trivial rfl rfl rfl ?_
  refine G.assignI rfl trivial rfl rfl rfl ?_
  refine G.nil ?_
  refine C.seq ?_
  refine C.region ?_
  refine G.moveP rfl trivial rfl rfl rfl ?_
  refine G.makeInterface rfl trivial rfl rfl Try.underlying29 rfl ?_
  refine G.call E16 rfl rfl trivial rfl rfl (count_spec W0 _ _ _ (p3 1) us3.len (aread_sheet W0 [] _ bs p3 sg3 hsg3)) rfl ?_
  rintro e L2 ⟨rfl, rfl⟩
  rw [countU_of (v := fun k => decide (2 ≤ k) && (((false || decide (k = 2)) || decide (k = 3)) && !decide (k = 2))) (fun k hk => us3.has hk) 32 (Nat.le_refl _), show (List.range 32).countP (fun k => decide (2 ≤ k) && (((false || decide (k = 2)) || decide (k = 3)) && !decide (k = 2))) = 1 by kernel_rfl]
  refine G.moveU rfl trivial rfl rfl rfl ?_
  refine G.extractL rfl trivial rfl rfl rfl rfl ?_
  refine G.extractL rfl trivial rfl rfl rfl rfl ?_
  refine G.assignI rfl trivial rfl rfl rfl ?_
  refine G.assignI rfl trivial rfl rfl rfl ?_
  refine G.nil ?_
  refine C.seq ?_
  refine C.region ?_
  refine G.moveP rfl trivial rfl rfl rfl ?_
  refine G.call E14 rfl rfl trivial rfl rfl (setroot_ok W0 [] _ bs p3 sg3 hsg3 us3.len 3 (by decide)) rfl ?_
  rintro e L2 ⟨sg4, hsg4, rfl, rfl⟩
  have us4 := us3.rooted (i := 3) (by decide)
  generalize updP p3 1 ((p3 1).set 4 (UInt8.ofNat 3)) = p4 at *
  refine G.assignI rfl trivial rfl rfl rfl ?_
  refine G.nil ?_
  refine C.seq ?_
  refine C.region ?_
  refine G.moveP rfl trivial rfl rfl rfl ?_
  refine G.makeInterface rfl trivial rfl rfl Try.underlying29 rfl ?_
  refine G.call E17 rfl rfl trivial rfl rfl (root_spec W0 _ _ _ (p4 1) us4.len (aread_sheet W0 [] _ bs p4 sg4 hsg4)) rfl ?_
  rintro e L2 ⟨rfl, rfl⟩
  rw [us4.root, if_pos (by decide)]
  refine G.moveU rfl trivial rfl rfl rfl ?_
  refine G.extractL rfl trivial rfl rfl rfl rfl ?_
  refine G.extractL rfl trivial rfl rfl rfl rfl ?_
  refine G.assignI rfl trivial rfl rfl rfl ?_
  refine G.assignI rfl trivial rfl rfl rfl ?_
  refine G.nil ?_
  refine C.seq ?_
  refine C.region ?_
  refine G.moveI rfl trivial rfl rfl rfl ?_
  refine G.bin rfl trivial rfl rfl rfl rfl rfl ?_
  refine G.yes (t := 53) rfl rfl ?_
  refine G.moveB rfl trivial rfl rfl rfl ?_
  refine G.moveI rfl ⟨_, rfl, rfl, rfl⟩ rfl rfl rfl ?_
  refine G.bin rfl ⟨_, rfl, rfl, rfl⟩ rfl rfl rfl rfl rfl ?_
  refine G.yes (t := 56) rfl rfl ?_
  first | refine G.pickT rfl trivial rfl rfl rfl rfl ?_ | refine G.pickF rfl trivial rfl rfl rfl rfl ?_
  refine G.moveB rfl trivial rfl rfl rfl ?_
  refine G.moveI rfl ⟨_, rfl, rfl, rfl⟩ rfl rfl rfl ?_
  refine G.bin rfl ⟨_, rfl, rfl, rfl⟩ rfl rfl rfl rfl rfl ?_
  refine G.yes (t := 60) rfl rfl ?_
  first | refine G.pickT rfl trivial rfl rfl rfl rfl ?_ | refine G.pickF rfl trivial rfl rfl rfl rfl ?_
  refine G.moveB rfl trivial rfl rfl rfl ?_
  refine G.moveI rfl ⟨_, rfl, rfl, rfl⟩ rfl rfl rfl ?_
  refine G.bin rfl ⟨_, rfl, rfl, rfl⟩ rfl rfl rfl rfl rfl ?_
  refine G.yes (t := 64) rfl rfl ?_
  first | refine G.pickT rfl trivial rfl rfl rfl rfl ?_ | refine G.pickF rfl trivial rfl rfl rfl rfl ?_
  refine G.moveB rfl trivial rfl rfl rfl ?_
  refine G.moveI rfl ⟨_, rfl, rfl, rfl⟩ rfl rfl rfl ?_
  refine G.bin rfl ⟨_, rfl, rfl, rfl⟩ rfl rfl rfl rfl rfl ?_
  refine G.yes (t := 68) rfl rfl ?_
  first | refine G.pickT rfl trivial rfl rfl rfl rfl ?_ | refine G.pickF rfl trivial rfl rfl rfl rfl ?_
  refine G.moveB rfl trivial rfl rfl rfl ?_
  refine G.moveB rfl ⟨_, rfl, rfl, rfl⟩ rfl rfl rfl ?_
  first | refine G.pickT rfl trivial rfl rfl rfl rfl ?_ | refine G.pickF rfl trivial rfl rfl rfl rfl ?_
  refine G.moveB rfl trivial rfl rfl rfl ?_
  refine G.moveI rfl ⟨_, rfl, rfl, rfl⟩ rfl rfl rfl ?_
  refine G.bin rfl ⟨_, rfl, rfl, rfl⟩ rfl rfl rfl rfl rfl ?_
  refine G.yes (t := 75) rfl rfl ?_
  first | refine G.pickT rfl trivial rfl rfl rfl rfl ?_ | refine G.pickF rfl trivial rfl rfl rfl rfl ?_
  refine G.moveB rfl trivial rfl rfl rfl ?_
  refine G.moveI rfl ⟨_, rfl, rfl, rfl⟩ rfl rfl rfl ?_
  refine G.bin rfl ⟨_, rfl, rfl, rfl⟩ rfl rfl rfl rfl rfl ?_
  refine G.yes (t := 79) rfl rfl ?_
  first | refine G.pickT rfl trivial rfl rfl rfl rfl ?_ | refine G.pickF rfl trivial rfl rfl rfl rfl ?_
  refine G.moveB rfl trivial rfl rfl rfl ?_
  refine G.moveI rfl ⟨_, rfl, rfl, rfl⟩ rfl rfl rfl ?_
  refine G.bin rfl ⟨_, rfl, rfl, rfl⟩ rfl rfl rfl rfl rfl ?_
  refine G.yes (t := 83) rfl rfl ?_
  first | refine G.pickT rfl trivial rfl rfl rfl rfl ?_ | refine G.pickF rfl trivial rfl rfl rfl rfl ?_
  refine G.moveB rfl trivial rfl rfl rfl ?_
  refine G.moveI rfl ⟨_, rfl, rfl, rfl⟩ rfl rfl rfl ?_
  refine G.bin rfl ⟨_, rfl, rfl, rfl⟩ rfl rfl rfl rfl rfl ?_
  refine G.yes (t := 87) rfl rfl ?_
  first | refine G.pickT rfl trivial rfl rfl rfl rfl ?_ | refine G.pickF rfl trivial rfl rfl rfl rfl ?_
  refine G.moveB rfl trivial rfl rfl rfl ?_
  refine G.moveI rfl ⟨_, rfl, rfl, rfl⟩ rfl rfl rfl ?_
  refine G.bin rfl ⟨_, rfl, rfl, rfl⟩ rfl rfl rfl rfl rfl ?_
  refine G.yes (t := 91) rfl rfl ?_
  first | refine G.pickT rfl trivial rfl rfl rfl rfl ?_ | refine G.pickF rfl trivial rfl rfl rfl rfl ?_
  refine G.moveB rfl trivial rfl rfl rfl ?_
  refine G.moveI rfl ⟨_, rfl, rfl, rfl⟩ rfl rfl rfl ?_
  refine G.bin rfl ⟨_, rfl, rfl, rfl⟩ rfl rfl rfl rfl rfl ?_
  refine G.yes (t := 95) rfl rfl ?_
  first | refine G.pickT rfl trivial rfl rfl rfl rfl ?_ | refine G.pickF rfl trivial rfl rfl rfl rfl ?_
  refine G.moveB rfl trivial rfl rfl rfl ?_
  refine G.moveP rfl ⟨_, rfl, rfl, rfl⟩ rfl rfl rfl ?_
  refine G.call E13 rfl rfl ⟨_, rfl, rfl, rfl⟩ rfl rfl (free_none W0 [] _ bs p4 sg4 hsg4 us4.len 9 ((us4.has (k := 9) (by decide)).trans rfl)) rfl ?_
  rintro e L2 ⟨rfl, rfl⟩
  refine G.bin rfl ⟨_, rfl, rfl, rfl⟩ rfl rfl rfl rfl rfl ?_
  refine G.yes (t := 100) rfl rfl ?_
  first | refine G.pickT rfl trivial rfl rfl rfl rfl ?_ | refine G.pickF rfl trivial rfl rfl rfl rfl ?_
  refine G.assignB rfl trivial rfl rfl rfl ?_
  refine G.nil ?_
  refine C.less (fun _ h => h.tail) ?_
  refine C.ret ?_
  -- end 
  exact ⟨rfl, _, Res.of (rs := [.tmp 0]) rfl rfl, rfl, rfl⟩
/-- a book whose first page is of its own -/
theorem bk_put (bb b : Nat) : (bkRow none).set 1 (.slice (some ⟨b, 0, none⟩) 256 256) = bkRow (some (b, zero256)) := rfl
theorem aroot_walk (x : UInt8) : FnS Try.prog W0 6 #[.int .u8 (x.toNat : Int)] [] (fun e _ => e = .returned (.bool true)) := by
  obtain ⟨pb, hpb⟩ : ∃ p, p = zero256.set 4 x := ⟨_, rfl⟩
  have hpl : pb.length = 256 := by rw [hpb, List.length_set, zero256_length]
  have hpr : rootP pb = x.toNat := by
    rw [hpb]
    unfold rootP
    rw [List.getElem?_set, if_pos rfl, if_pos (by rw [zero256_length]; decide)]
    rfl
  refine FnS.of (args := [.int .u8 (x.toNat : Int)]) Try.func6 rfl rfl ?_
  refine C.seq ?_
  refine C.region ?_
  refine G.assignB rfl trivial rfl rfl rfl ?_
  refine G.nil ?_
  refine C.seq ?_
  refine C.region ?_
  refine G.call E8 rfl rfl trivial rfl rfl (beganA_spec W0 _) rfl ?_
  rintro e L2 ⟨rfl, rfl⟩
  refine G.assignB rfl trivial rfl rfl rfl ?_
  refine G.nil ?_
  refine C.seq ?_
  refine C.seq ?_
  refine C.region ?_
  refine G.moveB rfl trivial rfl rfl rfl ?_
  first | refine G.notD rfl trivial rfl rfl rfl ?_ | refine G.not rfl trivial rfl rfl rfl ?_
  refine G.nil ?_
  refine C.condF rfl ?_
  refine C.skip ?_
  refine C.seq ?_
  refine C.region ?_
  refine G.buildL (cs := bkRow none) rfl trivial rfl rfl Try.underlying28 I28 B28 rfl (by kernel_rfl) ?_
  refine G.boxG rfl trivial rfl rfl rfl ?_
  intro bb
  rw [bkRow_length]
  refine G.assignP rfl trivial rfl rfl rfl ?_
  refine G.nil ?_
  refine C.seq ?_
  refine C.drawn mixed (_) [5] (fun _ h => h) ?_
  refine GA.pure (i := 0) (fun _ _ _ _ _ h => h) rfl (by kernel_rfl) trivial rfl rfl (Y.moveP rfl rfl) (#[true, false, false, false, false, false]) (by kernel_rfl) ?_
  first | refine GA.pure (i := 2) (fun _ _ _ _ _ h => h) rfl (by kernel_rfl) trivial rfl rfl (Y.nilCheckP rfl rfl) (#[true, false, true, false, false, false]) (by kernel_rfl) ?_ | refine GA.pure (i := 2) (fun _ _ _ _ _ h => h) rfl (by kernel_rfl) trivial rfl rfl (Y.nilCheckF rfl rfl) (#[true, false, true, false, false, false]) (by kernel_rfl) ?_
  refine GA.pure (i := 3) (fun _ _ _ _ _ h => h) rfl (by kernel_rfl) trivial rfl rfl (Y.fieldAddr rfl Try.underlying28 rfl I26 rfl rfl) (#[true, false, true, true, false, false]) (by kernel_rfl) ?_
  refine GA.one (i := 1) rfl (by kernel_rfl) (#[true, true, true, true, false, false]) (by kernel_rfl) ?_
  refine G.makeBytes (l := 256) (c := 256) rfl trivial rfl rfl Try.underlying25 I5 rfl rfl (by decide) ?_
  intro b13
  refine G.nil ?_
  refine ⟨fun _ _ h => h.tail, ?_⟩
  refine GA.pure (i := 4) (fun _ _ _ _ _ h => h) rfl (by kernel_rfl) trivial rfl rfl (Y.indexAddrArr rfl Try.underlying26 I25 rfl rfl (by omega)) (#[true, true, true, true, true, false]) (by kernel_rfl) ?_
  refine GA.one (i := 5) rfl (by kernel_rfl) (#[true, true, true, true, true, true]) (by kernel_rfl) ?_
  refine G.store (v := .slice _ _ _) (.next .here) rfl trivial rfl I25 rfl rfl rfl (by rw [bkRow_length]; decide) (bkRow (some (b13, zero256))) rfl ?_
  refine G.nil ?_
  refine ⟨fun _ h => absurd h (by simp [hit]), ?_⟩
  refine GA.done (by kernel_rfl) ?_
  refine C.seq ?_
  refine C.region ?_
  refine G.moveP rfl trivial rfl rfl rfl ?_
  first | refine G.nilCheckP rfl trivial rfl rfl rfl ?_ | refine G.nilCheckF rfl trivial rfl rfl rfl ?_
  refine G.fieldAddr rfl trivial rfl rfl Try.underlying28 rfl I26 rfl rfl ?_
  refine G.indexAddrArr rfl trivial rfl rfl Try.underlying26 I25 rfl rfl (by omega) ?_
  refine G.loadAt (v := .slice (some ⟨b13, 0, none⟩) 256 256) (.next .here) rfl trivial rfl rfl Try.underlying25 rfl rfl (bkRow_one _) ?_
  refine G.moveI rfl trivial rfl rfl rfl ?_
  refine G.indexAddr rfl trivial rfl rfl Try.underlying25 I5 rfl rfl (by omega) ?_
  refine G.store (v := .int .u8 (x.toNat : Int)) .here rfl trivial rfl I5 rfl rfl rfl (by rw [bytesV_length, List.length_replicate]; decide) (bytesV pb) ((bytesV_set _ 4 x).trans (by rw [hpb]; rfl)) ?_
  refine G.nil ?_
  refine C.seq ?_
  refine C.region ?_
  refine G.moveP rfl trivial rfl rfl rfl ?_
  refine G.makeInterface rfl trivial rfl rfl Try.underlying24 rfl ?_
  by_cases hgood : x.toNat = 0 ∨ (2 ≤ x.toNat ∧ x.toNat < 32)
  ·
    refine G.call E17 rfl rfl trivial rfl rfl (root_spec W0 _ _ _ pb hpl (aread_book W0 _ bb (some (b13, pb)) hpl _ (.next .here) (fun b xs h => by cases h; exact Rd.row0 .here))) rfl ?_
    rintro e L2 ⟨rfl, rfl⟩
    rw [hpr, if_pos hgood]
    refine G.moveU rfl trivial rfl rfl rfl ?_
    refine G.extractL rfl trivial rfl rfl rfl rfl ?_
    refine G.extractL rfl trivial rfl rfl rfl rfl ?_
    refine G.assignI rfl trivial rfl rfl rfl ?_
    refine G.assignI rfl trivial rfl rfl rfl ?_
    refine G.nil ?_
    refine C.seq ?_
    refine C.seq ?_
    refine C.region ?_
    have hx256 := x.toNat_lt
    refine G.moveI rfl trivial rfl rfl rfl ?_
    refine G.bin rfl trivial rfl rfl rfl rfl rfl ?_
    refine G.moveB rfl trivial rfl rfl rfl ?_
    refine G.fork (t := 32) _ rfl ?_ ?_
    · intro hg32
      refine G.skip rfl rfl rfl rfl rfl rfl ?_
      refine G.skip rfl rfl rfl rfl rfl rfl ?_
      refine G.skip rfl rfl rfl rfl rfl rfl ?_
      refine G.skipU rfl rfl rfl rfl rfl rfl ?_
      refine G.skipU rfl rfl rfl rfl rfl rfl ?_
      refine G.skip rfl rfl rfl rfl rfl rfl ?_
      first | refine G.pickT rfl trivial rfl rfl rfl rfl ?_ | refine G.pickF rfl trivial rfl rfl rfl rfl ?_
      refine G.nil ?_
      refine C.condT rfl ?_
      refine C.seq ?_
      refine C.region ?_
      refine G.moveI rfl trivial rfl rfl rfl ?_
      refine G.moveI rfl trivial rfl rfl rfl ?_
      refine G.convInt rfl trivial rfl rfl Try.underlying5 Try.underlying3 rfl ?_
      refine G.fix (d := 42) (v := .int .i64 (x.toNat : Int)) (by show Value.int .i64 _ = _; rw [wrap_i64 (by omega)]) ?_
      refine G.bin rfl trivial rfl rfl rfl rfl rfl ?_
      refine G.yes (t := 43) rfl rfl ?_
      refine G.moveB rfl trivial rfl rfl rfl ?_
      refine G.moveI rfl ⟨_, rfl, rfl, rfl⟩ rfl rfl rfl ?_
      refine G.bin rfl ⟨_, rfl, rfl, rfl⟩ rfl rfl rfl rfl rfl ?_
      refine G.yes (t := 46) rfl rfl ?_
      first | refine G.pickT rfl trivial rfl rfl rfl rfl ?_ | refine G.pickF rfl trivial rfl rfl rfl rfl ?_
      refine G.assignB rfl trivial rfl rfl rfl ?_
      refine G.nil ?_
      refine C.ret ?_
      -- end x27Tg32T
      exact ⟨rfl, _, Res.of (rs := [.tmp 2]) rfl rfl, rfl⟩
    · intro hg32
      refine G.moveI rfl ⟨_, rfl, rfl, rfl⟩ rfl rfl rfl ?_
      refine G.bin rfl ⟨_, rfl, rfl, rfl⟩ rfl rfl rfl rfl rfl ?_
      refine G.moveB rfl ⟨_, rfl, rfl, rfl⟩ rfl rfl rfl ?_
      refine G.yes (t := 35) rfl (by omega) ?_
      refine G.moveI rfl ⟨_, rfl, rfl, rfl⟩ rfl rfl rfl ?_
      refine G.bin rfl ⟨_, rfl, rfl, rfl⟩ rfl rfl rfl rfl rfl ?_
      first | refine G.pickT rfl ⟨_, rfl, rfl, rfl⟩ rfl rfl rfl rfl ?_ | refine G.pickF rfl ⟨_, rfl, rfl, rfl⟩ rfl rfl rfl rfl ?_
      first | refine G.pickT rfl trivial rfl rfl rfl rfl ?_ | refine G.pickF rfl trivial rfl rfl rfl rfl ?_
      refine G.nil ?_
      refine C.yes rfl (by omega) ?_
      refine C.seq ?_
      refine C.region ?_
      refine G.moveI rfl trivial rfl rfl rfl ?_
      refine G.moveI rfl trivial rfl rfl rfl ?_
      refine G.convInt rfl trivial rfl rfl Try.underlying5 Try.underlying3 rfl ?_
      refine G.fix (d := 42) (v := .int .i64 (x.toNat : Int)) (by show Value.int .i64 _ = _; rw [wrap_i64 (by omega)]) ?_
      refine G.bin rfl trivial rfl rfl rfl rfl rfl ?_
      refine G.yes (t := 43) rfl rfl ?_
      refine G.moveB rfl trivial rfl rfl rfl ?_
      refine G.moveI rfl ⟨_, rfl, rfl, rfl⟩ rfl rfl rfl ?_
      refine G.bin rfl ⟨_, rfl, rfl, rfl⟩ rfl rfl rfl rfl rfl ?_
      refine G.yes (t := 46) rfl rfl ?_
      first | refine G.pickT rfl trivial rfl rfl rfl rfl ?_ | refine G.pickF rfl trivial rfl rfl rfl rfl ?_
      refine G.assignB rfl trivial rfl rfl rfl ?_
      refine G.nil ?_
      refine C.ret ?_
      -- end x27Tg32F
      exact ⟨rfl, _, Res.of (rs := [.tmp 2]) rfl rfl, rfl⟩
  ·
    refine G.call E17 rfl rfl trivial rfl rfl (root_spec W0 _ _ _ pb hpl (aread_book W0 _ bb (some (b13, pb)) hpl _ (.next .here) (fun b xs h => by cases h; exact Rd.row0 .here))) rfl ?_
    rintro e L2 ⟨rfl, rfl⟩
    rw [hpr, if_neg hgood]
    refine G.moveU rfl trivial rfl rfl rfl ?_
    refine G.extractL rfl trivial rfl rfl rfl rfl ?_
    refine G.extractL rfl trivial rfl rfl rfl rfl ?_
    refine G.assignI rfl trivial rfl rfl rfl ?_
    refine G.assignI rfl trivial rfl rfl rfl ?_
    refine G.nil ?_
    refine C.seq ?_
    refine C.seq ?_
    refine C.region ?_
    have hx256 := x.toNat_lt
    refine G.moveI rfl trivial rfl rfl rfl ?_
    refine G.bin rfl trivial rfl rfl rfl rfl rfl ?_
    refine G.moveB rfl trivial rfl rfl rfl ?_
    refine G.no (t := 32) rfl (by omega) ?_
    refine G.moveI rfl ⟨_, rfl, rfl, rfl⟩ rfl rfl rfl ?_
    refine G.bin rfl ⟨_, rfl, rfl, rfl⟩ rfl rfl rfl rfl rfl ?_
    refine G.moveB rfl ⟨_, rfl, rfl, rfl⟩ rfl rfl rfl ?_
    refine G.fork (t := 35) _ rfl ?_ ?_
    · intro hg35
      refine G.moveI rfl ⟨_, rfl, rfl, rfl⟩ rfl rfl rfl ?_
      refine G.bin rfl ⟨_, rfl, rfl, rfl⟩ rfl rfl rfl rfl rfl ?_
      first | refine G.pickT rfl ⟨_, rfl, rfl, rfl⟩ rfl rfl rfl rfl ?_ | refine G.pickF rfl ⟨_, rfl, rfl, rfl⟩ rfl rfl rfl rfl ?_
      first | refine G.pickT rfl trivial rfl rfl rfl rfl ?_ | refine G.pickF rfl trivial rfl rfl rfl rfl ?_
      refine G.nil ?_
      refine C.no rfl (by omega) ?_
      refine C.skip ?_
      refine C.seq ?_
      refine C.region ?_
      refine G.moveI rfl trivial rfl rfl rfl ?_
      refine G.bin rfl trivial rfl rfl rfl rfl rfl ?_
      refine G.yes (t := 49) rfl rfl ?_
      refine G.moveB rfl trivial rfl rfl rfl ?_
      refine G.moveI rfl ⟨_, rfl, rfl, rfl⟩ rfl rfl rfl ?_
      refine G.bin rfl ⟨_, rfl, rfl, rfl⟩ rfl rfl rfl rfl rfl ?_
      refine G.yes (t := 52) rfl rfl ?_
      first | refine G.pickT rfl trivial rfl rfl rfl rfl ?_ | refine G.pickF rfl trivial rfl rfl rfl rfl ?_
      refine G.assignB rfl trivial rfl rfl rfl ?_
      refine G.nil ?_
      refine C.ret ?_
      -- end x27Fg35T
      exact ⟨rfl, _, Res.of (rs := [.tmp 2]) rfl rfl, rfl⟩
    · intro hg35
      refine G.skip rfl rfl rfl rfl rfl rfl ?_
      refine G.skip rfl rfl rfl rfl rfl rfl ?_
      first | refine G.pickT rfl ⟨_, rfl, rfl, rfl⟩ rfl rfl rfl rfl ?_ | refine G.pickF rfl ⟨_, rfl, rfl, rfl⟩ rfl rfl rfl rfl ?_
      first | refine G.pickT rfl trivial rfl rfl rfl rfl ?_ | refine G.pickF rfl trivial rfl rfl rfl rfl ?_
      refine G.nil ?_
      refine C.condF rfl ?_
      refine C.skip ?_
      refine C.seq ?_
      refine C.region ?_
      refine G.moveI rfl trivial rfl rfl rfl ?_
      refine G.bin rfl trivial rfl rfl rfl rfl rfl ?_
      refine G.yes (t := 49) rfl rfl ?_
      refine G.moveB rfl trivial rfl rfl rfl ?_
      refine G.moveI rfl ⟨_, rfl, rfl, rfl⟩ rfl rfl rfl ?_
      refine G.bin rfl ⟨_, rfl, rfl, rfl⟩ rfl rfl rfl rfl rfl ?_
      refine G.yes (t := 52) rfl rfl ?_
      first | refine G.pickT rfl trivial rfl rfl rfl rfl ?_ | refine G.pickF rfl trivial rfl rfl rfl rfl ?_
      refine G.assignB rfl trivial rfl rfl rfl ?_
      refine G.nil ?_
      refine C.ret ?_
      -- end x27Fg35F
      exact ⟨rfl, _, Res.of (rs := [.tmp 2]) rfl rfl, rfl⟩
def bitsB (a b c d : UInt8) : List UInt8 := (((zero256.set 0 a).set 1 b).set 2 c).set 3 d
theorem bitsB_at (a b c d : UInt8) {i : Nat} (h : i < 4) : (bitsB a b c d)[i]?.getD 0 = [a, b, c, d][i]?.getD 0 := by
  have hz := zero256_length
  unfold bitsB
  match i, h with
  | 0, _ | 1, _ | 2, _ | 3, _ => simp [List.getElem?_set, hz]
theorem bitsB_length (a b c d : UInt8) : (bitsB a b c d).length = 256 := by
  unfold bitsB
  rw [List.length_set, List.length_set, List.length_set, List.length_set, zero256_length]
theorem abits_walk (a b c d : UInt8) : FnS Try.prog W0 4 #[.int .u8 (a.toNat : Int), .int .u8 (b.toNat : Int), .int .u8 (c.toNat : Int), .int .u8 (d.toNat : Int)] [] (fun e _ => e = .returned (.bool true)) := by
  obtain ⟨pb, hpb⟩ : ∃ p, p = bitsB a b c d := ⟨_, rfl⟩
  have hpl : pb.length = 256 := by rw [hpb]; exact bitsB_length _ _ _ _
  have hpa : ∀ i, i < 4 → pb[i]?.getD 0 = [a, b, c, d][i]?.getD 0 := fun i h => by rw [hpb]; exact bitsB_at a b c d h
  obtain ⟨v, hv⟩ : ∃ v : Nat → Bool, v = fun k => decide (2 ≤ k) && usedP pb k := ⟨_, rfl⟩
  have hhas : ∀ k : Nat, k < 32 → hasB pb (k : Int) = v k := fun k hk => by
    rw [hv]
    unfold hasB
    rw [Int.toNat_natCast]
    congr 1
    exact decide_eq_decide.2 (by omega)
  refine FnS.of (args := [.int .u8 (a.toNat : Int), .int .u8 (b.toNat : Int), .int .u8 (c.toNat : Int), .int .u8 (d.toNat : Int)]) Try.func4 rfl rfl ?_
  refine C.seq ?_
  refine C.region ?_
  refine G.assignB rfl trivial rfl rfl rfl ?_
  refine G.nil ?_
  refine C.seq ?_
  refine C.region ?_
  refine G.call E8 rfl rfl trivial rfl rfl (beganA_spec W0 _) rfl ?_
  rintro e L2 ⟨rfl, rfl⟩
  refine G.assignB rfl trivial rfl rfl rfl ?_
  refine G.nil ?_
  refine C.seq ?_
  refine C.seq ?_
  refine C.region ?_
  refine G.moveB rfl trivial rfl rfl rfl ?_
  first | refine G.notD rfl trivial rfl rfl rfl ?_ | refine G.not rfl trivial rfl rfl rfl ?_
  refine G.nil ?_
  refine C.condF rfl ?_
  refine C.skip ?_
  refine C.seq ?_
  refine C.region ?_
  refine G.buildL (cs := bkRow none) rfl trivial rfl rfl Try.underlying28 I28 B28 rfl (by kernel_rfl) ?_
  refine G.boxG rfl trivial rfl rfl rfl ?_
  intro bb
  rw [bkRow_length]
  refine G.assignP rfl trivial rfl rfl rfl ?_
  refine G.nil ?_
  refine C.seq ?_
  refine C.drawn mixed (_) [5] (fun _ h => h) ?_
  refine GA.pure (i := 0) (fun _ _ _ _ _ h => h) rfl (by kernel_rfl) trivial rfl rfl (Y.moveP rfl rfl) (#[true, false, false, false, false, false]) (by kernel_rfl) ?_
  first | refine GA.pure (i := 2) (fun _ _ _ _ _ h => h) rfl (by kernel_rfl) trivial rfl rfl (Y.nilCheckP rfl rfl) (#[true, false, true, false, false, false]) (by kernel_rfl) ?_ | refine GA.pure (i := 2) (fun _ _ _ _ _ h => h) rfl (by kernel_rfl) trivial rfl rfl (Y.nilCheckF rfl rfl) (#[true, false, true, false, false, false]) (by kernel_rfl) ?_
  refine GA.pure (i := 3) (fun _ _ _ _ _ h => h) rfl (by kernel_rfl) trivial rfl rfl (Y.fieldAddr rfl Try.underlying28 rfl I26 rfl rfl) (#[true, false, true, true, false, false]) (by kernel_rfl) ?_
  refine GA.one (i := 1) rfl (by kernel_rfl) (#[true, true, true, true, false, false]) (by kernel_rfl) ?_
  refine G.makeBytes (l := 256) (c := 256) rfl trivial rfl rfl Try.underlying25 I5 rfl rfl (by decide) ?_
  intro b13
  refine G.nil ?_
  refine ⟨fun _ _ h => h.tail, ?_⟩
  refine GA.pure (i := 4) (fun _ _ _ _ _ h => h) rfl (by kernel_rfl) trivial rfl rfl (Y.indexAddrArr rfl Try.underlying26 I25 rfl rfl (by omega)) (#[true, true, true, true, true, false]) (by kernel_rfl) ?_
  refine GA.one (i := 5) rfl (by kernel_rfl) (#[true, true, true, true, true, true]) (by kernel_rfl) ?_
  refine G.store (v := .slice _ _ _) (.next .here) rfl trivial rfl I25 rfl rfl rfl (by rw [bkRow_length]; decide) (bkRow (some (b13, zero256))) rfl ?_
  refine G.nil ?_
  refine ⟨fun _ h => absurd h (by simp [hit]), ?_⟩
  refine GA.done (by kernel_rfl) ?_
  refine C.seq ?_
  refine C.drawn mixed (_) [25] (fun _ h => h) ?_
  refine GA.pure (i := 0) (fun _ _ _ _ _ h => h) rfl (by kernel_rfl) trivial rfl rfl (Y.moveP rfl rfl) (#[true, false, false, false, false, false, false, false, false, false, false, false, false, false, false, false, false, false, false, false, false, false, false, false, false, false, false, false, false, false, false, false]) (by kernel_rfl) ?_
  first | refine GA.pure (i := 1) (fun _ _ _ _ _ h => h) rfl (by kernel_rfl) trivial rfl rfl (Y.nilCheckP rfl rfl) (#[true, true, false, false, false, false, false, false, false, false, false, false, false, false, false, false, false, false, false, false, false, false, false, false, false, false, false, false, false, false, false, false]) (by kernel_rfl) ?_ | refine GA.pure (i := 1) (fun _ _ _ _ _ h => h) rfl (by kernel_rfl) trivial rfl rfl (Y.nilCheckF rfl rfl) (#[true, true, false, false, false, false, false, false, false, false, false, false, false, false, false, false, false, false, false, false, false, false, false, false, false, false, false, false, false, false, false, false]) (by kernel_rfl) ?_
  refine GA.pure (i := 2) (fun _ _ _ _ _ h => h) rfl (by kernel_rfl) trivial rfl rfl (Y.fieldAddr rfl Try.underlying28 rfl I26 rfl rfl) (#[true, true, true, false, false, false, false, false, false, false, false, false, false, false, false, false, false, false, false, false, false, false, false, false, false, false, false, false, false, false, false, false]) (by kernel_rfl) ?_
  refine GA.pure (i := 3) (fun _ _ _ _ _ h => h) rfl (by kernel_rfl) trivial rfl rfl (Y.indexAddrArr rfl Try.underlying26 I25 rfl rfl (by omega)) (#[true, true, true, true, false, false, false, false, false, false, false, false, false, false, false, false, false, false, false, false, false, false, false, false, false, false, false, false, false, false, false, false]) (by kernel_rfl) ?_
  refine GA.read (i := 4) (fun _ _ _ _ _ h => h) rfl (by kernel_rfl) (by kernel_rfl) trivial rfl rfl (Y.loadAt (v := .slice (some ⟨b13, 0, none⟩) 256 256) (.next .here) rfl Try.underlying25 rfl rfl (bkRow_one _)) (#[true, true, true, true, true, false, false, false, false, false, false, false, false, false, false, false, false, false, false, false, false, false, false, false, false, false, false, false, false, false, false, false]) (by kernel_rfl) ?_
  refine GA.pure (i := 5) (fun _ _ _ _ _ h => h) rfl (by kernel_rfl) trivial rfl rfl (Y.moveP rfl rfl) (#[true, true, true, true, true, true, false, false, false, false, false, false, false, false, false, false, false, false, false, false, false, false, false, false, false, false, false, false, false, false, false, false]) (by kernel_rfl) ?_
  first | refine GA.pure (i := 6) (fun _ _ _ _ _ h => h) rfl (by kernel_rfl) trivial rfl rfl (Y.nilCheckP rfl rfl) (#[true, true, true, true, true, true, true, false, false, false, false, false, false, false, false, false, false, false, false, false, false, false, false, false, false, false, false, false, false, false, false, false]) (by kernel_rfl) ?_ | refine GA.pure (i := 6) (fun _ _ _ _ _ h => h) rfl (by kernel_rfl) trivial rfl rfl (Y.nilCheckF rfl rfl) (#[true, true, true, true, true, true, true, false, false, false, false, false, false, false, false, false, false, false, false, false, false, false, false, false, false, false, false, false, false, false, false, false]) (by kernel_rfl) ?_
  refine GA.pure (i := 7) (fun _ _ _ _ _ h => h) rfl (by kernel_rfl) trivial rfl rfl (Y.fieldAddr rfl Try.underlying28 rfl I26 rfl rfl) (#[true, true, true, true, true, true, true, true, false, false, false, false, false, false, false, false, false, false, false, false, false, false, false, false, false, false, false, false, false, false, false, false]) (by kernel_rfl) ?_
  refine GA.pure (i := 8) (fun _ _ _ _ _ h => h) rfl (by kernel_rfl) trivial rfl rfl (Y.indexAddrArr rfl Try.underlying26 I25 rfl rfl (by omega)) (#[true, true, true, true, true, true, true, true, true, false, false, false, false, false, false, false, false, false, false, false, false, false, false, false, false, false, false, false, false, false, false, false]) (by kernel_rfl) ?_
  refine GA.read (i := 9) (fun _ _ _ _ _ h => h) rfl (by kernel_rfl) (by kernel_rfl) trivial rfl rfl (Y.loadAt (v := .slice (some ⟨b13, 0, none⟩) 256 256) (.next .here) rfl Try.underlying25 rfl rfl (bkRow_one _)) (#[true, true, true, true, true, true, true, true, true, true, false, false, false, false, false, false, false, false, false, false, false, false, false, false, false, false, false, false, false, false, false, false]) (by kernel_rfl) ?_
  refine GA.pure (i := 10) (fun _ _ _ _ _ h => h) rfl (by kernel_rfl) trivial rfl rfl (Y.moveP rfl rfl) (#[true, true, true, true, true, true, true, true, true, true, true, false, false, false, false, false, false, false, false, false, false, false, false, false, false, false, false, false, false, false, false, false]) (by kernel_rfl) ?_
  first | refine GA.pure (i := 11) (fun _ _ _ _ _ h => h) rfl (by kernel_rfl) trivial rfl rfl (Y.nilCheckP rfl rfl) (#[true, true, true, true, true, true, true, true, true, true, true, true, false, false, false, false, false, false, false, false, false, false, false, false, false, false, false, false, false, false, false, false]) (by kernel_rfl) ?_ | refine GA.pure (i := 11) (fun _ _ _ _ _ h => h) rfl (by kernel_rfl) trivial rfl rfl (Y.nilCheckF rfl rfl) (#[true, true, true, true, true, true, true, true, true, true, true, true, false, false, false, false, false, false, false, false, false, false, false, false, false, false, false, false, false, false, false, false]) (by kernel_rfl) ?_
  refine GA.pure (i := 12) (fun _ _ _ _ _ h => h) rfl (by kernel_rfl) trivial rfl rfl (Y.fieldAddr rfl Try.underlying28 rfl I26 rfl rfl) (#[true, true, true, true, true, true, true, true, true, true, true, true, true, false, false, false, false, false, false, false, false, false, false, false, false, false, false, false, false, false, false, false]) (by kernel_rfl) ?_
  refine GA.pure (i := 13) (fun _ _ _ _ _ h => h) rfl (by kernel_rfl) trivial rfl rfl (Y.indexAddrArr rfl Try.underlying26 I25 rfl rfl (by omega)) (#[true, true, true, true, true, true, true, true, true, true, true, true, true, true, false, false, false, false, false, false, false, false, false, false, false, false, false, false, false, false, false, false]) (by kernel_rfl) ?_
  refine GA.read (i := 14) (fun _ _ _ _ _ h => h) rfl (by kernel_rfl) (by kernel_rfl) trivial rfl rfl (Y.loadAt (v := .slice (some ⟨b13, 0, none⟩) 256 256) (.next .here) rfl Try.underlying25 rfl rfl (bkRow_one _)) (#[true, true, true, true, true, true, true, true, true, true, true, true, true, true, true, false, false, false, false, false, false, false, false, false, false, false, false, false, false, false, false, false]) (by kernel_rfl) ?_
  refine GA.pure (i := 15) (fun _ _ _ _ _ h => h) rfl (by kernel_rfl) trivial rfl rfl (Y.moveP rfl rfl) (#[true, true, true, true, true, true, true, true, true, true, true, true, true, true, true, true, false, false, false, false, false, false, false, false, false, false, false, false, false, false, false, false]) (by kernel_rfl) ?_
  first | refine GA.pure (i := 16) (fun _ _ _ _ _ h => h) rfl (by kernel_rfl) trivial rfl rfl (Y.nilCheckP rfl rfl) (#[true, true, true, true, true, true, true, true, true, true, true, true, true, true, true, true, true, false, false, false, false, false, false, false, false, false, false, false, false, false, false, false]) (by kernel_rfl) ?_ | refine GA.pure (i := 16) (fun _ _ _ _ _ h => h) rfl (by kernel_rfl) trivial rfl rfl (Y.nilCheckF rfl rfl) (#[true, true, true, true, true, true, true, true, true, true, true, true, true, true, true, true, true, false, false, false, false, false, false, false, false, false, false, false, false, false, false, false]) (by kernel_rfl) ?_
  refine GA.pure (i := 17) (fun _ _ _ _ _ h => h) rfl (by kernel_rfl) trivial rfl rfl (Y.fieldAddr rfl Try.underlying28 rfl I26 rfl rfl) (#[true, true, true, true, true, true, true, true, true, true, true, true, true, true, true, true, true, true, false, false, false, false, false, false, false, false, false, false, false, false, false, false]) (by kernel_rfl) ?_
  refine GA.pure (i := 18) (fun _ _ _ _ _ h => h) rfl (by kernel_rfl) trivial rfl rfl (Y.indexAddrArr rfl Try.underlying26 I25 rfl rfl (by omega)) (#[true, true, true, true, true, true, true, true, true, true, true, true, true, true, true, true, true, true, true, false, false, false, false, false, false, false, false, false, false, false, false, false]) (by kernel_rfl) ?_
  refine GA.read (i := 19) (fun _ _ _ _ _ h => h) rfl (by kernel_rfl) (by kernel_rfl) trivial rfl rfl (Y.loadAt (v := .slice (some ⟨b13, 0, none⟩) 256 256) (.next .here) rfl Try.underlying25 rfl rfl (bkRow_one _)) (#[true, true, true, true, true, true, true, true, true, true, true, true, true, true, true, true, true, true, true, true, false, false, false, false, false, false, false, false, false, false, false, false]) (by kernel_rfl) ?_
  refine GA.pure (i := 20) (fun _ _ _ _ _ h => h) rfl (by kernel_rfl) trivial rfl rfl (Y.moveI rfl rfl) (#[true, true, true, true, true, true, true, true, true, true, true, true, true, true, true, true, true, true, true, true, true, false, false, false, false, false, false, false, false, false, false, false]) (by kernel_rfl) ?_
  refine GA.pure (i := 21) (fun _ _ _ _ _ h => h) rfl (by kernel_rfl) trivial rfl rfl (Y.moveI rfl rfl) (#[true, true, true, true, true, true, true, true, true, true, true, true, true, true, true, true, true, true, true, true, true, true, false, false, false, false, false, false, false, false, false, false]) (by kernel_rfl) ?_
  refine GA.pure (i := 22) (fun _ _ _ _ _ h => h) rfl (by kernel_rfl) trivial rfl rfl (Y.moveI rfl rfl) (#[true, true, true, true, true, true, true, true, true, true, true, true, true, true, true, true, true, true, true, true, true, true, true, false, false, false, false, false, false, false, false, false]) (by kernel_rfl) ?_
  refine GA.pure (i := 23) (fun _ _ _ _ _ h => h) rfl (by kernel_rfl) trivial rfl rfl (Y.moveI rfl rfl) (#[true, true, true, true, true, true, true, true, true, true, true, true, true, true, true, true, true, true, true, true, true, true, true, true, false, false, false, false, false, false, false, false]) (by kernel_rfl) ?_
  refine GA.pure (i := 24) (fun _ _ _ _ _ h => h) rfl (by kernel_rfl) trivial rfl rfl (Y.indexAddr rfl Try.underlying25 I5 rfl rfl (by omega)) (#[true, true, true, true, true, true, true, true, true, true, true, true, true, true, true, true, true, true, true, true, true, true, true, true, true, false, false, false, false, false, false, false]) (by kernel_rfl) ?_
  refine GA.one (i := 25) rfl (by kernel_rfl) (#[true, true, true, true, true, true, true, true, true, true, true, true, true, true, true, true, true, true, true, true, true, true, true, true, true, true, false, false, false, false, false, false]) (by kernel_rfl) ?_
  refine G.store (v := .int .u8 (a.toNat : Int)) .here rfl trivial rfl I5 rfl rfl rfl (by rw [bytesV_length]; rw [List.length_replicate]; decide) _ (bytesV_set _ 0 a) ?_
  refine G.nil ?_
  refine ⟨fun _ h => absurd h (by simp [hit]), ?_⟩
  refine GA.pure (i := 26) (fun _ _ _ _ _ h => h) rfl (by kernel_rfl) trivial rfl rfl (Y.indexAddr rfl Try.underlying25 I5 rfl rfl (by omega)) (#[true, true, true, true, true, true, true, true, true, true, true, true, true, true, true, true, true, true, true, true, true, true, true, true, true, true, true, false, false, false, false, false]) (by kernel_rfl) ?_
  refine GA.one (i := 27) rfl (by kernel_rfl) (#[true, true, true, true, true, true, true, true, true, true, true, true, true, true, true, true, true, true, true, true, true, true, true, true, true, true, true, true, false, false, false, false]) (by kernel_rfl) ?_
  refine G.store (v := .int .u8 (b.toNat : Int)) .here rfl trivial rfl I5 rfl rfl rfl (by rw [bytesV_length]; rw [List.length_set, List.length_replicate]; decide) _ (bytesV_set _ 1 b) ?_
  refine G.nil ?_
  refine ⟨fun _ h => absurd h (by simp [hit]), ?_⟩
  refine GA.pure (i := 28) (fun _ _ _ _ _ h => h) rfl (by kernel_rfl) trivial rfl rfl (Y.indexAddr rfl Try.underlying25 I5 rfl rfl (by omega)) (#[true, true, true, true, true, true, true, true, true, true, true, true, true, true, true, true, true, true, true, true, true, true, true, true, true, true, true, true, true, false, false, false]) (by kernel_rfl) ?_
  refine GA.one (i := 29) rfl (by kernel_rfl) (#[true, true, true, true, true, true, true, true, true, true, true, true, true, true, true, true, true, true, true, true, true, true, true, true, true, true, true, true, true, true, false, false]) (by kernel_rfl) ?_
  refine G.store (v := .int .u8 (c.toNat : Int)) .here rfl trivial rfl I5 rfl rfl rfl (by rw [bytesV_length]; rw [List.length_set, List.length_set, List.length_replicate]; decide) _ (bytesV_set _ 2 c) ?_
  refine G.nil ?_
  refine ⟨fun _ h => absurd h (by simp [hit]), ?_⟩
  refine GA.pure (i := 30) (fun _ _ _ _ _ h => h) rfl (by kernel_rfl) trivial rfl rfl (Y.indexAddr rfl Try.underlying25 I5 rfl rfl (by omega)) (#[true, true, true, true, true, true, true, true, true, true, true, true, true, true, true, true, true, true, true, true, true, true, true, true, true, true, true, true, true, true, true, false]) (by kernel_rfl) ?_
  refine GA.one (i := 31) rfl (by kernel_rfl) (#[true, true, true, true, true, true, true, true, true, true, true, true, true, true, true, true, true, true, true, true, true, true, true, true, true, true, true, true, true, true, true, true]) (by kernel_rfl) ?_
  refine G.store (v := .int .u8 (d.toNat : Int)) .here rfl trivial rfl I5 rfl rfl rfl (by rw [bytesV_length]; rw [List.length_set, List.length_set, List.length_set, List.length_replicate]; decide) _ (bytesV_set _ 3 d) ?_
  refine G.nil ?_
  refine ⟨fun _ h => absurd h (by simp [hit]), ?_⟩
  refine GA.done (by kernel_rfl) ?_
  refine C.seq ?_
  refine C.region ?_
  refine G.assignI rfl trivial rfl rfl rfl ?_
  refine G.nil ?_
  refine C.seq ?_
  refine C.region ?_
  refine G.moveI rfl trivial rfl rfl rfl ?_
  refine G.moveI rfl trivial rfl rfl rfl ?_
  refine G.moveI rfl trivial rfl rfl rfl ?_
  refine G.moveI rfl trivial rfl rfl rfl ?_
  refine G.buildSliceL (cs := [.int .u8 (a.toNat : Int), .int .u8 (b.toNat : Int), .int .u8 (c.toNat : Int), .int .u8 (d.toNat : Int)]) (zs := [(.int .u8 0), (.int .u8 0), (.int .u8 0), (.int .u8 0)]) rfl trivial rfl rfl Try.underlying25 I5 rfl (by kernel_rfl) rfl rfl ?_
  intro b61
  refine G.assignS rfl trivial rfl rfl rfl ?_
  have hbz : (((((List.replicate 256 0).set 0 a).set 1 b).set 2 c).set 3 d : List UInt8) = pb := hpb.symm
  rw [hbz]
  refine G.nil ?_
  refine C.seq ?_
  refine C.seq ?_
  refine C.region ?_
  refine G.assignI rfl trivial rfl rfl rfl ?_
  refine G.nil ?_
  refine C.block ?_
  refine C.loop (fun m F D' L' => ∃ i : Nat, 2 ≤ i ∧ i ≤ 32 ∧ m = 32 - i ∧ F 13 = .int .i64 i ∧ F 11 = .int .i64 ((List.range i).countP v : Nat) ∧ F 12 = .slice (some ⟨b61, 0, none⟩) 4 4 ∧ F 10 = ptr bb ∧ D' = [] ∧ [(b61, .row (bytesV [a, b, c, d]) 5 4)] :: [(b13, .row (bytesV pb) 5 256)] :: [(bb, .row (bkRow (some (b13, zero256))) 28 97)] :: [] = L') ⟨_, ⟨2, by omega, by omega, rfl, rfl, by rw [hv]; rfl, rfl, rfl, rfl, rfl⟩⟩ ?_
  rintro m F D' L' ⟨i, hi2, hi, rfl, h13, h11, h12, h10, rfl, rfl⟩
  refine C.fix (d := 13) h13 ?_
  refine C.fix (d := 11) h11 ?_
  refine C.fix (d := 12) h12 ?_
  refine C.fix (d := 10) h10 ?_
  refine C.seq ?_
  refine C.seq ?_
  refine C.region ?_
  refine G.moveI rfl trivial rfl rfl rfl ?_
  refine G.bin rfl trivial rfl rfl rfl rfl rfl ?_
  refine G.nil ?_
  refine C.cond _ rfl ?_ ?_
  · intro hc1
    have hlt : i < 32 := by omega
    obtain ⟨x, hx⟩ : ∃ x, x = pb[i / 8]?.getD 0 := ⟨_, rfl⟩
    have hxa : (bytesV [a, b, c, d])[i / 8]? = some (.int .u8 (x.toNat : Int)) := by rw [bytesV_at (by simp; omega), hx, hpa _ (by omega), List.getElem?_eq_getElem (by simp; omega)]; rfl
    have hu : ub x (i % 8) = v i := by rw [hx]; simp only [hv]; rw [decide_eq_true hi2, Bool.true_and]; rfl
    have hcnt : (List.range (i + 1)).countP v = (List.range i).countP v + if v i = true then 1 else 0 := by rw [List.range_succ, List.countP_append, List.countP_singleton]
    have hcl : (List.range i).countP v ≤ 32 := Nat.le_trans List.countP_le_length (by rw [List.length_range]; exact hi)
    refine C.skip ?_
    refine C.seq ?_
    refine C.block ?_
    refine C.seq ?_
    refine C.region ?_
    refine G.moveS rfl trivial rfl rfl rfl ?_
    refine G.moveI rfl trivial rfl rfl rfl ?_
    refine G.quo rfl trivial rfl rfl rfl rfl (by decide) ?_
    rw [show IntKind.i64.wrap ((i : Int).tdiv 8) = ((i / 8 : Nat) : Int) by rw [Int.tdiv_eq_ediv_of_nonneg (by omega), wrap_i64 (by omega)]; omega]
    refine G.indexAddr rfl trivial rfl rfl Try.underlying25 I5 rfl rfl (by omega) ?_
    refine G.fix (d := 69) (v := .pointer (some ⟨b61, i / 8, none⟩)) (by show Value.pointer (some ⟨b61, 0 + ((i / 8 : Nat) : Int).toNat * 1, none⟩) = _; rw [Int.toNat_natCast, Nat.mul_one, Nat.zero_add]) ?_
    refine G.loadAt (v := .int .u8 (x.toNat : Int)) .here rfl trivial rfl rfl Try.underlying5 rfl rfl hxa ?_
    refine G.moveI rfl trivial rfl rfl rfl ?_
    refine G.rem rfl trivial rfl rfl rfl rfl (by decide) ?_
    rw [show (i : Int).tmod 8 = ((i % 8 : Nat) : Int) by rw [Int.tmod_eq_emod_of_nonneg (by omega)]; omega]
    refine G.convInt rfl trivial rfl rfl Try.underlying3 Try.underlying45 rfl ?_
    refine G.fix (d := 73) (v := .int .u64 ((i % 8 : Nat) : Int)) (by show Value.int .u64 (IntKind.u64.wrap ((i % 8 : Nat) : Int)) = _; rw [wrap_in .u64 (by simp [IntKind.min, IntKind.max, IntKind.bits, IntKind.signed]; omega)]) ?_
    refine G.shr rfl trivial rfl rfl rfl rfl (by omega) ?_
    refine G.bin rfl trivial rfl rfl rfl rfl rfl ?_
    refine G.fix (d := 75) (v := .int .u8 (if ub x (i % 8) then 1 else 0)) (and_val _ (Nat.mod_lt _ (by decide))) ?_
    refine G.bin rfl trivial rfl rfl rfl rfl rfl ?_
    refine G.fix (d := 76) (v := .bool (v i)) (by show Value.bool (decide ((if ub x (i % 8) then (1 : Int) else 0) = 1)) = _; rw [hu]; cases v i <;> rfl) ?_
    refine G.assignB rfl trivial rfl rfl rfl ?_
    refine G.nil ?_
    refine C.seq ?_
    refine C.region ?_
    refine G.moveP rfl trivial rfl rfl rfl ?_
    refine G.makeInterface rfl trivial rfl rfl Try.underlying24 rfl ?_
    refine G.moveI rfl trivial rfl rfl rfl ?_
    refine G.call E15 rfl rfl trivial rfl rfl (used_spec W0 _ _ _ pb hpl (aread_book W0 _ bb (some (b13, pb)) hpl _ (.next (.next .here)) (fun b xs h => by cases h; exact Rd.row0 (.next .here))) (i : Int)) rfl ?_
    rintro e L2 ⟨rfl, rfl⟩
    rw [hhas i hlt]
    refine G.moveU rfl trivial rfl rfl rfl ?_
    refine G.extractL rfl trivial rfl rfl rfl rfl ?_
    refine G.extractL rfl trivial rfl rfl rfl rfl ?_
    refine G.assignB rfl trivial rfl rfl rfl ?_
    refine G.assignI rfl trivial rfl rfl rfl ?_
    refine G.nil ?_
    refine C.seq ?_
    refine C.seq ?_
    refine C.region ?_
    refine G.moveB rfl trivial rfl rfl rfl ?_
    refine G.moveB rfl trivial rfl rfl rfl ?_
    refine G.boolNe rfl trivial rfl rfl Try.underlying4 rfl rfl ?_
    refine G.fix (d := 86) (v := .bool false) (by show Value.bool (v i != v i) = _; cases v i <;> rfl) ?_
    refine G.moveB rfl trivial rfl rfl rfl ?_
    refine G.moveI rfl ⟨_, rfl, rfl, rfl⟩ rfl rfl rfl ?_
    refine G.bin rfl ⟨_, rfl, rfl, rfl⟩ rfl rfl rfl rfl rfl ?_
    refine G.no (t := 89) rfl (by simp) ?_
    first | refine G.pickT rfl trivial rfl rfl rfl rfl ?_ | refine G.pickF rfl trivial rfl rfl rfl rfl ?_
    refine G.nil ?_
    refine C.condF rfl ?_
    refine C.skip ?_
    refine C.seq ?_
    refine C.region ?_
    refine G.moveB rfl trivial rfl rfl rfl ?_
    refine G.nil ?_
    refine C.condB _ rfl ?_ ?_
    · intro hc3
      refine C.region ?_
      refine G.moveI rfl trivial rfl rfl rfl ?_
      refine G.add rfl trivial rfl rfl rfl rfl (by omega) ?_
      refine G.assignI rfl trivial rfl rfl rfl ?_
      refine G.nil ?_
      refine C.region ?_
      refine G.moveI rfl trivial rfl rfl rfl ?_
      refine G.add rfl trivial rfl rfl rfl rfl (by omega) ?_
      refine G.assignI rfl trivial rfl rfl rfl ?_
      refine G.nil ?_
      exact ⟨32 - (i + 1), by omega, i + 1, by omega, by omega, rfl, rfl, by show Value.int .i64 ((((List.range i).countP v : Nat) : Int) + 1) = Value.int .i64 (((List.range (i + 1)).countP v : Nat) : Int); rw [hcnt, hc3]; rfl, rfl, rfl, rfl, rfl⟩
    · intro hc3
      refine C.skip ?_
      refine C.region ?_
      refine G.moveI rfl trivial rfl rfl rfl ?_
      refine G.add rfl trivial rfl rfl rfl rfl (by omega) ?_
      refine G.assignI rfl trivial rfl rfl rfl ?_
      refine G.nil ?_
      exact ⟨32 - (i + 1), by omega, i + 1, by omega, by omega, rfl, rfl, by show Value.int .i64 (((List.range i).countP v : Nat) : Int) = Value.int .i64 (((List.range (i + 1)).countP v : Nat) : Int); rw [hcnt, hc3]; rfl, rfl, rfl, rfl, rfl⟩
  · intro hc1
    obtain rfl : i = 32 := by omega
    refine C.exit ?_
    refine C.seq ?_
    refine C.region ?_
    refine G.moveP rfl trivial rfl rfl rfl ?_
    refine G.makeInterface rfl trivial rfl rfl Try.underlying24 rfl ?_
    refine G.call E16 rfl rfl trivial rfl rfl (count_spec W0 _ _ _ pb hpl (aread_book W0 _ bb (some (b13, pb)) hpl _ (.next (.next .here)) (fun b xs h => by cases h; exact Rd.row0 (.next .here)))) rfl ?_
    rintro e L2 ⟨rfl, rfl⟩
    rw [countU_of hhas 32 (Nat.le_refl _)]
    refine G.moveU rfl trivial rfl rfl rfl ?_
    refine G.extractL rfl trivial rfl rfl rfl rfl ?_
    refine G.extractL rfl trivial rfl rfl rfl rfl ?_
    refine G.assignI rfl trivial rfl rfl rfl ?_
    refine G.assignI rfl trivial rfl rfl rfl ?_
    refine G.nil ?_
    refine C.seq ?_
    refine C.region ?_
    refine G.moveI rfl trivial rfl rfl rfl ?_
    refine G.moveI rfl trivial rfl rfl rfl ?_
    refine G.bin rfl trivial rfl rfl rfl rfl rfl ?_
    refine G.yes (t := 102) rfl rfl ?_
    refine G.moveB rfl trivial rfl rfl rfl ?_
    refine G.moveI rfl ⟨_, rfl, rfl, rfl⟩ rfl rfl rfl ?_
    refine G.bin rfl ⟨_, rfl, rfl, rfl⟩ rfl rfl rfl rfl rfl ?_
    refine G.yes (t := 105) rfl rfl ?_
    first | refine G.pickT rfl trivial rfl rfl rfl rfl ?_ | refine G.pickF rfl trivial rfl rfl rfl rfl ?_
    refine G.assignB rfl trivial rfl rfl rfl ?_
    refine G.nil ?_
    refine C.ret ?_
    -- end c1F
    exact ⟨rfl, _, Res.of (rs := [.tmp 8]) rfl rfl, rfl⟩
end laws
end Go.Proofs.Ytoegcjgdaikfiaa
