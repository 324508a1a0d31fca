/-
  The log: records forced, all cut away; walked.
-/
import Derived.Test.YtjfjmhmfhkdcbabWl4
import Derived.Test.YtjfjmhmfhkdcbabSLA
namespace Go.Proofs.Ytjfjmhmfhkdcbab
open Go Go.SL Go.RowKit

theorem Rd.under {W0 : World} {L : List Seg} {s : Seg} {a : Option Addr} {vs : List Value} (h : ∀ W0 L, Rd W0 (s :: L) a vs) (S : List Seg) : Rd W0 (S ++ (s :: L)) a vs := (h W0 L).sub (by
  rw [List.flatten_append]
  exact List.sublist_append_right _ _)
theorem Mem.back4 {W0 w : World} {a b c d : Seg} {L : List Seg} (h : Mem W0 w (a :: b :: c :: d :: L)) : Mem W0 w (d :: a :: b :: L) := by
  have h2 : Mem W0 w (c :: d :: a :: b :: L) := h.up4.up4
  exact h2.tail
theorem tdiv_nat (a b : Nat) : ((a : Int).tdiv (b : Int)) = ((a / b : Nat) : Int) := (Int.ofNat_tdiv a b).symm
section
variable (W0 : World) (L0 : List Seg) (bg bs bd bl : Nat)
theorem write_spec' (g : Lg) (sg : Seg) (hsg : LgIs bg bs bd g sg) (d : Dv) (p : Sp) (sp : Seg) (hsp : SpIs bs bd p sp) (t : Nat) (ht : t < 999999) (xs ys : List UInt8) (hw : Wd d p t g.base xs) (hf : g.forced = g.base + xs.length) (to : Nat) (hto : to = g.base + (xs ++ ys).length) (hy : 0 < ys.length) (hroom : xs.length + ys.length ≤ 65536) (hR : Has g.R g.base (xs ++ ys)) (hbig : to < 1000000000000) :
    FnS Try.prog W0 26 #[ptr bg, .int .i64 (to : Int)] (sg :: sp :: devSeg bd bl d :: L0) (fun r L' => ∃ sp' d' e, L' = sg :: sp' :: devSeg bd bl d' :: L0 ∧
      ((e = 0 ∧ SpIs bs bd (nextP p t (txt g.base to)) sp' ∧ Wd d' (nextP p t (txt g.base to)) (t + 1) g.base (xs ++ ys)) ∨
        (e = 5 ∧ d'.ok ∧ d'.l.length = 1410 ∧ ¬ d.live ∧ ∀ ks, Wd (d'.crash ks) p t g.base xs ∨ Wd (d'.crash ks) (nextP p t (txt g.base to)) (t + 1) g.base (xs ++ ys))) ∧ (d.live → d'.live) ∧ r = .returned (.int .i64 e)) := by
  obtain ⟨cs, v0, es, hcs, hes, rfl⟩ := hsg
  subst hto
  have hyl : (xs ++ ys).length = xs.length + ys.length := List.length_append
  have hRx := hR.left
  refine FnS.of (args := [ptr bg, .int .i64 ((g.base + (xs ++ ys).length : Nat) : Int)]) Try.func26 rfl rfl ?_
  refine C.seq ?_
  refine C.region ?_
  refine G.assignI rfl trivial rfl rfl rfl ?_
  refine G.nil ?_
  refine C.seq ?_
  refine C.seq ?_
  refine C.region ?_
  refine G.moveP rfl trivial rfl rfl rfl ?_
  first | refine G.nilCheckP rfl trivial rfl rfl rfl ?_ | refine G.nilCheckF rfl trivial rfl rfl rfl ?_
  refine G.fieldAddr rfl trivial rfl rfl Try.underlying66 rfl I2 rfl rfl ?_
  refine G.loadAt (v := .int .i64 (g.forced : Int)) .here rfl trivial rfl rfl Try.underlying2 rfl rfl (lr_forced hcs.1) ?_
  refine G.quo rfl trivial rfl rfl rfl rfl (by omega) ?_
  refine G.fix (d := 13) (v := .int .i64 ((g.forced / 64 : Nat) : Int)) (by show Value.int .i64 _ = _; refine congrArg _ ?_; rw [show (64 : Int) = ((64 : Nat) : Int) from rfl, tdiv_nat]; exact wrap_i64 (by omega)) ?_
  refine G.assignI rfl trivial rfl rfl rfl ?_
  refine G.nil ?_
  refine C.block ?_
  refine C.loop (fun m F D' L' => ∃ (k : Nat) (d1 : Dv), g.forced / 64 ≤ k ∧ 64 * k < g.base + (xs ++ ys).length + 64 ∧ Wd d1 p t g.base xs ∧ Cov d1 g.R (64 * (g.forced / 64)) (64 * k) ∧ (d.live → d1.live) ∧ m = g.base + (xs ++ ys).length + 64 - 64 * k ∧ F 5 = .int .i64 (k : Int) ∧ F 0 = ptr bg ∧ F 1 = .int .i64 ((g.base + (xs ++ ys).length : Nat) : Int) ∧ D' = [] ∧ ((bg, .row (logRow bd bs cs g.base g.forced g.end_ v0 g.bad) 66 65543) :: es) :: sp :: devSeg bd bl d1 :: L0 = L') ⟨_, ⟨g.forced / 64, d, by omega, by omega, hw, Cov.nil _ _ _, fun h => h, rfl, rfl, rfl, rfl, rfl, rfl⟩⟩ ?_
  rintro m F D' L' ⟨k, d1, hk0, hk, hw1, hcov, hlv, rfl, h5, h0', h1', rfl, rfl⟩
  refine C.fix (d := 5) h5 ?_
  refine C.fix (d := 0) h0' ?_
  refine C.fix (d := 1) h1' ?_
  refine C.seq ?_
  refine C.seq ?_
  refine C.region ?_
  refine G.moveI rfl trivial rfl rfl rfl ?_
  refine G.mul rfl trivial rfl rfl rfl rfl (by omega) ?_
  refine G.moveI rfl trivial rfl rfl rfl ?_
  refine G.bin rfl trivial rfl rfl rfl rfl rfl ?_
  refine G.nil ?_
  refine C.cond _ rfl ?_ ?_
  · intro hc0
    have hi : k % 1024 < 1024 := Nat.mod_lt _ (by decide)
    have hsr := secR_length g.R (k % 1024)
    refine C.skip ?_
    refine C.seq ?_
    refine C.block ?_
    refine C.seq ?_
    refine C.region ?_
    refine G.moveI rfl trivial rfl rfl rfl ?_
    refine G.rem rfl trivial rfl rfl rfl rfl (by omega) ?_
    refine G.fix (d := 21) (v := .int .i64 ((k % 1024 : Nat) : Int)) (by show Value.int .i64 _ = _; exact congrArg _ (tmod_nat k 1024)) ?_
    refine G.assignI rfl trivial rfl rfl rfl ?_
    refine G.nil ?_
    refine C.seq ?_
    refine C.drawn mixed ([_]) [] (fun _ h => Mem.only h) ?_
    refine GA.pure (i := 0) (fun _ _ _ _ _ h => h) rfl (by kernel_rfl) trivial rfl rfl (Y.moveP rfl rfl) (#[true, false, false, false, false, false, false, false, false, false, false, false, false, false, false, false, false]) (by kernel_rfl) ?_
    first | refine GA.pure (i := 1) (fun _ _ _ _ _ h => h) rfl (by kernel_rfl) trivial rfl rfl (Y.nilCheckP rfl rfl) (#[true, true, false, false, false, false, false, false, false, false, false, false, false, false, false, false, false]) (by kernel_rfl) ?_ | refine GA.pure (i := 1) (fun _ _ _ _ _ h => h) rfl (by kernel_rfl) trivial rfl rfl (Y.nilCheckF rfl rfl) (#[true, true, false, false, false, false, false, false, false, false, false, false, false, false, false, false, false]) (by kernel_rfl) ?_
    refine GA.pure (i := 2) (fun _ _ _ _ _ h => h) rfl (by kernel_rfl) trivial rfl rfl (Y.fieldAddr rfl Try.underlying66 rfl I24 rfl rfl) (#[true, true, true, false, false, false, false, false, false, false, false, false, false, false, false, false, false]) (by kernel_rfl) ?_
    refine GA.read (i := 3) (fun _ _ _ _ _ h => h) rfl (by kernel_rfl) (by kernel_rfl) trivial rfl rfl (Y.loadAt (v := ptr bd) .here rfl Try.underlying24 rfl rfl rfl) (#[true, true, true, true, false, false, false, false, false, false, false, false, false, false, false, false, false]) (by kernel_rfl) ?_
    refine GA.pure (i := 4) (fun _ _ _ _ _ h => h) rfl (by kernel_rfl) trivial rfl rfl (Y.moveI rfl rfl) (#[true, true, true, true, true, false, false, false, false, false, false, false, false, false, false, false, false]) (by kernel_rfl) ?_
    refine GA.pure (i := 5) (fun _ _ _ _ _ h => h) rfl (by kernel_rfl) trivial rfl rfl (Y.add rfl rfl rfl (by omega)) (#[true, true, true, true, true, true, false, false, false, false, false, false, false, false, false, false, false]) (by kernel_rfl) ?_
    refine GA.fix (d := 27) (v := .int .i64 ((386 + k % 1024 : Nat) : Int)) (by show Value.int .i64 _ = _; congr 1) ?_
    refine GA.pure (i := 6) (fun _ _ _ _ _ h => h) rfl (by kernel_rfl) trivial rfl rfl (Y.moveP rfl rfl) (#[true, true, true, true, true, true, true, false, false, false, false, false, false, false, false, false, false]) (by kernel_rfl) ?_
    first | refine GA.pure (i := 7) (fun _ _ _ _ _ h => h) rfl (by kernel_rfl) trivial rfl rfl (Y.nilCheckP rfl rfl) (#[true, true, true, true, true, true, true, true, false, false, false, false, false, false, false, false, false]) (by kernel_rfl) ?_ | refine GA.pure (i := 7) (fun _ _ _ _ _ h => h) rfl (by kernel_rfl) trivial rfl rfl (Y.nilCheckF rfl rfl) (#[true, true, true, true, true, true, true, true, false, false, false, false, false, false, false, false, false]) (by kernel_rfl) ?_
    refine GA.pure (i := 8) (fun _ _ _ _ _ h => h) rfl (by kernel_rfl) trivial rfl rfl (Y.fieldAddr rfl Try.underlying66 rfl I63 rfl rfl) (#[true, true, true, true, true, true, true, true, true, false, false, false, false, false, false, false, false]) (by kernel_rfl) ?_
    refine GA.pure (i := 9) (fun _ _ _ _ _ h => h) rfl (by kernel_rfl) trivial rfl rfl (Y.moveI rfl rfl) (#[true, true, true, true, true, true, true, true, true, true, false, false, false, false, false, false, false]) (by kernel_rfl) ?_
    refine GA.pure (i := 10) (fun _ _ _ _ _ h => h) rfl (by kernel_rfl) trivial rfl rfl (Y.mul rfl rfl rfl (by omega)) (#[true, true, true, true, true, true, true, true, true, true, true, false, false, false, false, false, false]) (by kernel_rfl) ?_
    refine GA.pure (i := 11) (fun _ _ _ _ _ h => h) rfl (by kernel_rfl) trivial rfl rfl (Y.moveI rfl rfl) (#[true, true, true, true, true, true, true, true, true, true, true, true, false, false, false, false, false]) (by kernel_rfl) ?_
    refine GA.pure (i := 12) (fun _ _ _ _ _ h => h) rfl (by kernel_rfl) trivial rfl rfl (Y.add rfl rfl rfl (by omega)) (#[true, true, true, true, true, true, true, true, true, true, true, true, true, false, false, false, false]) (by kernel_rfl) ?_
    refine GA.pure (i := 13) (fun _ _ _ _ _ h => h) rfl (by kernel_rfl) trivial rfl rfl (Y.mul rfl rfl rfl (by omega)) (#[true, true, true, true, true, true, true, true, true, true, true, true, true, true, false, false, false]) (by kernel_rfl) ?_
    refine GA.pure (i := 14) (fun _ _ _ _ _ h => h) rfl (by kernel_rfl) trivial rfl rfl (Y.sliceArrLH rfl Try.underlying63 I5 rfl rfl rfl (by omega)) (#[true, true, true, true, true, true, true, true, true, true, true, true, true, true, true, false, false]) (by kernel_rfl) ?_
    refine GA.fix (d := 36) (v := .slice (some ⟨bg, 2 + 64 * (k % 1024), none⟩) 64 (65536 - 64 * (k % 1024))) (by show Value.slice (some ⟨bg, 0 + 2 + (64 * ((k % 1024 : Nat) : Int)).toNat * 1, none⟩) ((64 * (((k % 1024 : Nat) : Int) + 1)).toNat - (64 * ((k % 1024 : Nat) : Int)).toNat) (65536 - (64 * ((k % 1024 : Nat) : Int)).toNat) = _; rw [show (64 * ((k % 1024 : Nat) : Int)).toNat = 64 * (k % 1024) by omega, show (64 * (((k % 1024 : Nat) : Int) + 1)).toNat - 64 * (k % 1024) = 64 by omega, Nat.zero_add, Nat.mul_one]) ?_
    by_cases hdead : d1.isDead = true
    ·
      refine GA.one (i := 15) rfl (by kernel_rfl) (#[true, true, true, true, true, true, true, true, true, true, true, true, true, true, true, true, false]) (by kernel_rfl) ?_
      refine G.call E34 rfl rfl trivial rfl rfl (write_dead W0 [_, _] _ bd bl d1 hdead _ _ _ _) rfl ?_
      rintro e L2 ⟨rfl, rfl⟩
      refine G.nil ?_
      refine ⟨fun _ _ h => Mem.only h, ?_⟩
      refine GA.pure (i := 16) (fun _ _ _ _ _ h => h) rfl (by kernel_rfl) trivial rfl rfl (Y.assignI rfl rfl) (#[true, true, true, true, true, true, true, true, true, true, true, true, true, true, true, true, true]) (by kernel_rfl) ?_
      refine GA.done (by kernel_rfl) ?_
      refine C.seq ?_
      refine C.region ?_
      refine G.moveI rfl trivial rfl rfl rfl ?_
      refine G.bin rfl trivial rfl rfl rfl rfl rfl ?_
      refine G.nil ?_
      refine C.yes rfl (by simp) ?_
      refine C.seq ?_
      refine C.region ?_
      refine G.moveI rfl trivial rfl rfl rfl ?_
      refine G.assignI rfl trivial rfl rfl rfl ?_
      refine G.nil ?_
      refine C.ret ?_
      -- end c0Tx37T
      exact ⟨rfl, _, Res.of (rs := [.tmp 4]) rfl rfl, sp, d1, 5, rfl, .inr ⟨rfl, hw1.ok, hw1.len, fun h => by (rw [(hlv h).notDead] at hdead; cases hdead), fun ks => .inl (hw1.crash ks)⟩, hlv, rfl⟩
    ·
      refine GA.one (i := 15) rfl (by kernel_rfl) (#[true, true, true, true, true, true, true, true, true, true, true, true, true, true, true, true, false]) (by kernel_rfl) ?_
      refine G.call E34 rfl rfl trivial rfl rfl (write_at W0 [_, _] _ bd bl d1 hw1.ok (by simpa using hdead) (386 + k % 1024) (by rw [hw1.len]; omega) _ 64 _ (secR g.R (k % 1024)) hsr.symm (by omega) (Rd.row .here (fun j hj => by rw [bytesV_length, hsr] at hj; rw [show 2 + 64 * (k % 1024) + j = 2 + (64 * (k % 1024) + j) by omega, lr_byte hcs.1 (by omega), hcs.2 _ (by omega), bytesV, List.getElem?_map, secR_at g.R (k % 1024) hj]; rfl))) rfl ?_
      rintro e L2 ⟨rfl, rfl⟩
      refine G.nil ?_
      refine ⟨fun _ _ h => Mem.only h, ?_⟩
      refine GA.pure (i := 16) (fun _ _ _ _ _ h => h) rfl (by kernel_rfl) trivial rfl rfl (Y.assignI rfl rfl) (#[true, true, true, true, true, true, true, true, true, true, true, true, true, true, true, true, true]) (by kernel_rfl) ?_
      refine GA.done (by kernel_rfl) ?_
      refine C.seq ?_
      refine C.region ?_
      refine G.moveI rfl trivial rfl rfl rfl ?_
      refine G.bin rfl trivial rfl rfl rfl rfl rfl ?_
      refine G.nil ?_
      refine C.no rfl (by simp) ?_
      refine C.skip ?_
      refine C.region ?_
      refine G.moveI rfl trivial rfl rfl rfl ?_
      refine G.add rfl trivial rfl rfl rfl rfl (by omega) ?_
      refine G.assignI rfl trivial rfl rfl rfl ?_
      refine G.nil ?_
      exact ⟨g.base + (xs ++ ys).length + 64 - 64 * (k + 1), by omega, k + 1, _, by omega, by omega, hw1.put (by simpa using hdead) hRx hi, hcov.put hw1.ok hw1.len, fun h => live_put (hlv h) _ _, rfl, rfl, rfl, rfl, rfl, rfl⟩
  · intro hc0
    have hnow : Has (dby d1) g.base (xs ++ ys) := hw1.now.append (hcov.has (by omega) (by omega) hR.right)
    refine C.exit ?_
    refine C.seq ?_
    refine C.seq ?_
    refine C.region ?_
    refine G.moveP rfl trivial rfl rfl rfl ?_
    first | refine G.nilCheckP rfl trivial rfl rfl rfl ?_ | refine G.nilCheckF rfl trivial rfl rfl rfl ?_
    refine G.fieldAddr rfl trivial rfl rfl Try.underlying66 rfl I24 rfl rfl ?_
    refine G.loadAt (v := ptr bd) .here rfl trivial rfl rfl Try.underlying24 rfl rfl rfl ?_
    by_cases hdead : d1.isDead = true
    ·
      refine G.call E40 rfl rfl trivial rfl rfl (flush_dead W0 [_, _] _ bd bl _ hdead) rfl ?_
      rintro e L2 ⟨rfl, rfl⟩
      refine G.assignI rfl trivial rfl rfl rfl ?_
      refine G.nil ?_
      refine C.seq ?_
      refine C.region ?_
      refine G.moveI rfl trivial rfl rfl rfl ?_
      refine G.bin rfl trivial rfl rfl rfl rfl rfl ?_
      refine G.nil ?_
      refine C.yes rfl (by simp) ?_
      refine C.seq ?_
      refine C.region ?_
      refine G.moveI rfl trivial rfl rfl rfl ?_
      refine G.assignI rfl trivial rfl rfl rfl ?_
      refine G.nil ?_
      refine C.ret ?_
      -- end c0Fx45T
      exact ⟨rfl, _, Res.of (rs := [.tmp 4]) rfl rfl, sp, d1, 5, rfl, .inr ⟨rfl, hw1.ok, hw1.len, fun h => by (rw [(hlv h).notDead] at hdead; cases hdead), fun ks => .inl (hw1.crash ks)⟩, hlv, rfl⟩
    ·
      refine G.call E40 rfl rfl trivial rfl rfl (flush_ok W0 [_, _] _ bd bl _ hw1.ok (by simpa using hdead)) rfl ?_
      rintro e L2 ⟨rfl, rfl⟩
      have hw2 := hw1.flush (by simpa using hdead)
      have hn2 : Has (dby d1.flush) g.base (xs ++ ys) := hnow.congr (dby_flush d1)
      have hl2 : Has (lby d1.flush) g.base (xs ++ ys) := hnow.congr (lby_flush d1)
      have hlv2 : d.live → d1.flush.live := fun h => hlv h
      generalize d1.flush = d2 at *
      obtain ⟨hcase, hlv3⟩ := hw2.saved g.base (xs ++ ys) hn2 hl2 (by omega)
      have htl := txt_length (b := g.base) (e := g.base + (xs ++ ys).length) (by omega) (by omega)
      refine G.assignI rfl trivial rfl rfl rfl ?_
      refine G.nil ?_
      refine C.seq ?_
      refine C.region ?_
      refine G.moveI rfl trivial rfl rfl rfl ?_
      refine G.bin rfl trivial rfl rfl rfl rfl rfl ?_
      refine G.nil ?_
      refine C.no rfl (by simp) ?_
      refine C.skip ?_
      refine C.seq ?_
      refine C.drawn mixed ([_]) [] (fun _ h => Mem.only h) ?_
      refine GA.pure (i := 0) (fun _ _ _ _ _ h => h) rfl (by kernel_rfl) trivial rfl rfl (Y.moveP rfl rfl) (#[true, false, false, false, false, false, false, false, false, false, false, false]) (by kernel_rfl) ?_
      first | refine GA.pure (i := 1) (fun _ _ _ _ _ h => h) rfl (by kernel_rfl) trivial rfl rfl (Y.nilCheckP rfl rfl) (#[true, true, false, false, false, false, false, false, false, false, false, false]) (by kernel_rfl) ?_ | refine GA.pure (i := 1) (fun _ _ _ _ _ h => h) rfl (by kernel_rfl) trivial rfl rfl (Y.nilCheckF rfl rfl) (#[true, true, false, false, false, false, false, false, false, false, false, false]) (by kernel_rfl) ?_
      refine GA.pure (i := 2) (fun _ _ _ _ _ h => h) rfl (by kernel_rfl) trivial rfl rfl (Y.fieldAddr rfl Try.underlying66 rfl I59 rfl rfl) (#[true, true, true, false, false, false, false, false, false, false, false, false]) (by kernel_rfl) ?_
      refine GA.read (i := 3) (fun _ _ _ _ _ h => h) rfl (by kernel_rfl) (by kernel_rfl) trivial rfl rfl (Y.loadAt (v := ptr bs) .here rfl Try.underlying59 rfl rfl rfl) (#[true, true, true, true, false, false, false, false, false, false, false, false]) (by kernel_rfl) ?_
      refine GA.pure (i := 4) (fun _ _ _ _ _ h => h) rfl (by kernel_rfl) trivial rfl rfl (Y.moveP rfl rfl) (#[true, true, true, true, true, false, false, false, false, false, false, false]) (by kernel_rfl) ?_
      first | refine GA.pure (i := 5) (fun _ _ _ _ _ h => h) rfl (by kernel_rfl) trivial rfl rfl (Y.nilCheckP rfl rfl) (#[true, true, true, true, true, true, false, false, false, false, false, false]) (by kernel_rfl) ?_ | refine GA.pure (i := 5) (fun _ _ _ _ _ h => h) rfl (by kernel_rfl) trivial rfl rfl (Y.nilCheckF rfl rfl) (#[true, true, true, true, true, true, false, false, false, false, false, false]) (by kernel_rfl) ?_
      refine GA.pure (i := 6) (fun _ _ _ _ _ h => h) rfl (by kernel_rfl) trivial rfl rfl (Y.fieldAddr rfl Try.underlying66 rfl I2 rfl rfl) (#[true, true, true, true, true, true, true, false, false, false, false, false]) (by kernel_rfl) ?_
      refine GA.read (i := 7) (fun _ _ _ _ _ h => h) rfl (by kernel_rfl) (by kernel_rfl) trivial rfl rfl (Y.loadAt (v := .int .i64 (g.base : Int)) .here rfl Try.underlying2 rfl rfl (lr_base hcs.1)) (#[true, true, true, true, true, true, true, true, false, false, false, false]) (by kernel_rfl) ?_
      refine GA.pure (i := 8) (fun _ _ _ _ _ h => h) rfl (by kernel_rfl) trivial rfl rfl (Y.moveI rfl rfl) (#[true, true, true, true, true, true, true, true, true, false, false, false]) (by kernel_rfl) ?_
      refine GA.one (i := 9) rfl (by kernel_rfl) (#[true, true, true, true, true, true, true, true, true, true, false, false]) (by kernel_rfl) ?_
      refine G.call E21 rfl rfl trivial rfl rfl (text2_spec W0 _ g.base (g.base + (xs ++ ys).length) (by omega) (by omega)) rfl ?_
      rintro e L2 ⟨v58, s58, hv58, rfl, rfl⟩
      obtain ⟨a58, c58, rfl, hr58⟩ := hv58.form
      refine G.nil ?_
      refine ⟨fun _ _ h => (by first | exact Mem.only h.tail | exact Mem.only h.tail.tail.tail), ?_⟩
      refine GA.less (fun _ h => h.up4.up4) ?_
      refine GA.one (i := 10) rfl (by kernel_rfl) (#[true, true, true, true, true, true, true, true, true, true, true, false]) (by kernel_rfl) ?_
      refine G.call E27 rfl rfl trivial rfl rfl (save_spec W0 _ bs bd bl d2 hw2.ok p sp hsp t hw2.sl.turn (by omega) hw2.sl.slot (by rw [hw2.pa, hw2.len]; decide) a58 c58 (txt g.base (g.base + (xs ++ ys).length)) (by omega) (fun S => Rd.under hr58 S)) rfl ?_
      rintro e L2 ⟨sp1, rfl, hsp1, rfl⟩
      refine G.nil ?_
      refine ⟨fun _ _ h => (by first | exact Mem.only h.tail | exact Mem.only h.tail.tail.tail), ?_⟩
      refine GA.pure (i := 11) (fun _ _ _ _ _ h => h) rfl (by kernel_rfl) trivial rfl rfl (Y.assignI rfl rfl) (#[true, true, true, true, true, true, true, true, true, true, true, true]) (by kernel_rfl) ?_
      refine GA.done (by kernel_rfl) ?_
      refine C.less (fun _ h => Mem.back4 h) ?_
      refine C.ret ?_
      -- end c0Fx45F
      refine ⟨rfl, _, Res.of (rs := [.tmp 4]) rfl rfl, sp1, _, _, rfl, ?_, fun h => hlv3 (hlv2 h), rfl⟩
      rcases hcase with ⟨q1, q2⟩ | ⟨q1, q2, q3, q4, q5⟩
      · rw [if_pos q1] at hsp1
        exact .inl ⟨q1, hsp1, q2⟩
      · exact .inr ⟨q1, q2, q3, fun h => q4 (hlv2 h), q5⟩
end
end Go.Proofs.Ytjfjmhmfhkdcbab
