/-
  The law SuperCrash, walked.
-/
import Derived.Test.YtmfaoeeddafcfaaSu5
namespace Go.Proofs.Ytmfaoeeddafcfaa
open Go Go.SL Go.RowKit

abbrev oldP (a : List UInt8) : Sp := { at_ := 0, slot := 0, turn := 1, text := a }
abbrev newP (b : List UInt8) : Sp := { at_ := 0, slot := 1, turn := 2, text := b }
theorem setFuse_l (d : Dv) (n : Int) : (d.setFuse n).l = d.l := by unfold Dv.setFuse; rfl
theorem setFuse_now (d : Dv) (n : Int) (j : Nat) : nowAt (d.setFuse n) j = nowAt d j := by unfold nowAt; rw [setFuse_l]
theorem setFuse_clean {d : Dv} (h : d.clean) (n : Int) : (d.setFuse n).clean := fun s hs => h s (by rwa [setFuse_l] at hs)
theorem crash_holds (d : Dv) (hd : d.ok) (hl : d.live) (hn : d.l.length = 2) (hc : d.clean) {a b : List UInt8} (hs : Slots d (oldP a) 1) (hz : nowAt d 1 = zero64) (hb : b.length ≤ 40) (f : Nat) (hf : f ≤ 5) (ks : List Bool) :
    ∃ p t, ((p = oldP a ∧ t = 1) ∨ (p = newP b ∧ t = 2)) ∧ Slots ((swr (d.setFuse f) 1 (sectS 2 b)).1.crash ks) p t ∧
      (((swr (d.setFuse f) 1 (sectS 2 b)).2 = 0 ∧ p = newP b ∧ t = 2) ∨ (swr (d.setFuse f) 1 (sectS 2 b)).2 = 5) := by
  have hok := Dv.setFuse_ok hd (n := f) (by omega)
  have hx := sectS_length 2 (b := b) (by omega)
  have hlit : (d.setFuse f).lit = true := decide_eq_true (show (f : Int) ≥ 0 by omega)
  have hfu : (d.setFuse f).fuse = (f : Int) := by
    show (if 0 > (f : Int) then 0 else (f : Int)) = f
    rw [if_neg (by omega)]
  have hde : (d.setFuse f).dead = decide ((f : Int) = 0) := by
    show (d.isDead || decide ((f : Int) = 0)) = _
    rw [hl.notDead, Bool.false_or]
  have hlen : (d.setFuse f).l.length = 2 := by rw [setFuse_l]; exact hn
  have hcl := setFuse_clean hc (f : Int)
  have hsl : Slots (d.setFuse f) (oldP a) 1 := hs.congr (setFuse_now _ _ _) (setFuse_now _ _ _)
  have hz1 : nowAt (d.setFuse f) 1 = zero64 := by rw [setFuse_now]; exact hz
  generalize d.setFuse (f : Int) = e at *
  by_cases h0 : f = 0
  · subst h0
    have hdead : e.isDead = true := by simp [Dv.isDead, hlit, hfu]
    have he : swr e 1 (sectS 2 b) = (e, 5) := by unfold swr; rw [if_pos hdead]
    rw [he]
    exact ⟨oldP a, 1, .inl ⟨rfl, rfl⟩, hsl.crash hcl ks, .inr rfl⟩
  · have hdead : e.isDead = false := by simp [Dv.isDead, hlit, hfu, hde, h0]
    have hput : (e.put 1 (sectS 2 b)).fuse = (f : Int) - 1 ∧ (e.put 1 (sectS 2 b)).lit = true ∧ (e.put 1 (sectS 2 b)).dead = false := by
      refine ⟨?_, hlit, ?_⟩
      · show (if e.lit then e.fuse - 1 else e.fuse) = _
        rw [hlit, if_pos rfl, hfu]
      · show e.dead = false
        rw [hde]
        exact decide_eq_false (by omega)
    by_cases h1 : f = 1
    · subst h1
      have hd2 : (e.put 1 (sectS 2 b)).isDead = true := by simp [Dv.isDead, hput.1, hput.2.1]
      have he : swr e 1 (sectS 2 b) = (e.put 1 (sectS 2 b), 5) := by unfold swr; rw [if_neg (by rw [hdead]; simp), if_pos hd2]
      rw [he]
      -- sector 0 is as it was; sector 1 is the new one or none
      have hl0 : 0 < e.l.length := by omega
      have hl1 : 1 < e.l.length := by omega
      have s0 : (e.put 1 (sectS 2 b)).l[0]? = some e.l[0] := by
        show (e.l.modify 1 _)[0]? = _
        rw [List.getElem?_modify, List.getElem?_eq_getElem hl0]
        rfl
      have s1 : (e.put 1 (sectS 2 b)).l[1]? = some (e.l[1].put (sectS 2 b)) := by
        show (e.l.modify 1 _)[1]? = _
        rw [List.getElem?_modify, List.getElem?_eq_getElem hl1]
        rfl
      obtain ⟨q1, q2⟩ := hcl _ (List.getElem_mem hl0)
      obtain ⟨q3, q4⟩ := hcl _ (List.getElem_mem hl1)
      have n0 : nowAt ((e.put 1 (sectS 2 b)).crash ks) 0 = nowAt e 0 := by
        rw [nowAt_crash, s0]
        simp only [kept, q1, Bool.false_and, if_neg (show ¬ (false = true) by simp), q2]
        exact nowAt_eq hl0
      have n1 : nowAt ((e.put 1 (sectS 2 b)).crash ks) 1 = sectS 2 b ∨ nowAt ((e.put 1 (sectS 2 b)).crash ks) 1 = zero64 := by
        rw [nowAt_crash, s1]
        unfold kept
        simp only
        split
        · left
          show over (sectS 2 b) e.l[1].now = _
          exact over_full (by rw [hx, (hok.1 _ (List.getElem_mem hl1)).1]; exact Nat.le_refl _)
        · right
          show e.l[1].lasts = _
          rw [q4, nowAt_eq hl1]
          exact hz1
      have h00 : nowAt e 0 = sectS 1 a := hsl.here
      rcases n1 with n1 | n1
      · exact ⟨newP b, 2, .inr ⟨rfl, rfl⟩, ⟨rfl, by decide, Nat.le_refl _, hb, n1, .inr ⟨a, hsl.len, by decide, n0.trans h00⟩⟩, .inr rfl⟩
      · exact ⟨oldP a, 1, .inl ⟨rfl, rfl⟩, ⟨rfl, by decide, Nat.zero_le _, hsl.len, n0.trans h00, .inl n1⟩, .inr rfl⟩
    · have hd2 : (e.put 1 (sectS 2 b)).isDead = false := by
        simp only [Dv.isDead, hput.1, hput.2.1, hput.2.2, Bool.false_or, Bool.true_and, decide_eq_false_iff_not]
        omega
      have he : swr e 1 (sectS 2 b) = (sav e (oldP a) 1 b, 0) := by unfold swr; rw [if_neg (by rw [hdead]; simp), if_neg (by rw [hd2]; simp)]; rfl
      rw [he]
      exact ⟨newP b, 2, .inr ⟨rfl, rfl⟩, (hsl.saved hok (by show 0 + 1 < _; omega) hb).crash (flush_clean _) ks, .inl ⟨rfl, rfl, rfl⟩⟩
theorem crash_walk (W0 : World) (a0 a1 a2 a4 : Option Addr) (c0 c1 c2 c4 : Nat) (xs0 xs1 xs2 : List UInt8) (f : Nat) (hf : f ≤ 5) (ks : List Bool) (h0 : xs0.length ≤ c0) (h1 : xs1.length ≤ c1) (h2 : xs2.length ≤ c2) (h4 : ks.length ≤ c4)
    (r0 : ∀ L, Rd W0 L a0 (bytesV xs0)) (r1 : ∀ L, Rd W0 L a1 (bytesV xs1)) (r2 : ∀ L, Rd W0 L a2 (bytesV xs2)) (r4 : ∀ L, Rd W0 L a4 (ks.map Value.bool)) :
    FnS Try.prog W0 5 #[.slice a0 xs0.length c0, .slice a1 xs1.length c1, .slice a2 xs2.length c2, .int .i64 (f : Int), .slice a4 ks.length c4] [] (fun e _ => e = .returned (.bool true)) := by
  have ha : (xs0.take 40).length ≤ 40 := by simp; omega
  have hb : (xs1.take 40).length ≤ 40 := by simp; omega
  have hc : (xs2.take 40).length ≤ 40 := by simp; omega
  have q0 : ∀ L, Rd W0 L a0 (bytesV (xs0.take 40)) := fun L => by rw [← bytesV_take]; exact (r0 L).take
  have q1 : ∀ L, Rd W0 L a1 (bytesV (xs1.take 40)) := fun L => by rw [← bytesV_take]; exact (r1 L).take
  have q2 : ∀ L, Rd W0 L a2 (bytesV (xs2.take 40)) := fun L => by rw [← bytesV_take]; exact (r2 L).take
  refine FnS.of (args := [.slice a0 xs0.length c0, .slice a1 xs1.length c1, .slice a2 xs2.length c2, .int .i64 (f : Int), .slice a4 ks.length c4]) Try.func5 rfl rfl ?_
  refine C.seq ?_
  refine C.region ?_
  refine G.assignB rfl trivial rfl rfl rfl ?_
  refine G.nil ?_
  refine C.seq ?_
  refine C.region ?_
  refine G.call E10 rfl rfl trivial rfl rfl (beganS_spec W0 _) rfl ?_
  rintro e L2 ⟨rfl, rfl⟩
  refine G.assignB rfl trivial rfl rfl rfl ?_
  refine G.nil ?_
  refine C.seq ?_
  refine C.seq ?_
  refine C.region ?_
  refine G.moveB rfl trivial rfl rfl rfl ?_
  first | refine G.notD rfl trivial rfl rfl rfl ?_ | refine G.not rfl trivial rfl rfl rfl ?_
  refine G.nil ?_
  refine C.condF rfl ?_
  refine C.skip ?_
  refine C.seq ?_
  refine C.region ?_
  refine G.moveS rfl trivial rfl rfl rfl ?_
  refine G.call E17 rfl rfl trivial rfl rfl (short_u8 W0 _ a0 c0 xs0 40 rfl h0) rfl ?_
  rintro e L2 ⟨rfl, rfl⟩
  generalize xs0.take 40 = a at *
  refine G.moveS rfl trivial rfl rfl rfl ?_
  refine G.call E17 rfl rfl trivial rfl rfl (short_u8 W0 _ a1 c1 xs1 40 rfl h1) rfl ?_
  rintro e L2 ⟨rfl, rfl⟩
  generalize xs1.take 40 = b at *
  refine G.moveS rfl trivial rfl rfl rfl ?_
  refine G.call E17 rfl rfl trivial rfl rfl (short_u8 W0 _ a2 c2 xs2 40 rfl h2) rfl ?_
  rintro e L2 ⟨rfl, rfl⟩
  generalize xs2.take 40 = c at *
  refine G.assignS rfl trivial rfl rfl rfl ?_
  refine G.assignS rfl trivial rfl rfl rfl ?_
  refine G.assignS rfl trivial rfl rfl rfl ?_
  refine G.nil ?_
  refine C.seq ?_
  refine C.seq ?_
  refine C.region ?_
  refine G.moveI rfl trivial rfl rfl rfl ?_
  refine G.bin rfl trivial rfl rfl rfl rfl rfl ?_
  refine G.moveB rfl trivial rfl rfl rfl ?_
  refine G.no (t := 35) rfl (by omega) ?_
  refine G.moveI rfl ⟨_, rfl, rfl, rfl⟩ rfl rfl rfl ?_
  refine G.bin rfl ⟨_, rfl, rfl, rfl⟩ rfl rfl rfl rfl rfl ?_
  first | refine G.pickT rfl trivial rfl rfl rfl rfl ?_ | refine G.pickF rfl trivial rfl rfl rfl rfl ?_
  refine G.nil ?_
  refine C.no rfl (by omega) ?_
  refine C.skip ?_
  refine C.seq ?_
  refine C.region ?_
  refine G.call E7 rfl rfl trivial rfl rfl (new_spec W0 _ 2) rfl ?_
  rintro e L2 ⟨bd, bl, rfl, rfl⟩
  rw [show clampN 2 = 2 from rfl]
  have hokN : (newDv 2).ok := newDv_ok (by decide)
  have hliveN := new_live 2
  have hlenN : (newDv 2).l.length = 2 := rfl
  generalize newDv 2 = dN at *
  refine G.assignP rfl trivial rfl rfl rfl ?_
  refine G.nil ?_
  refine C.seq ?_
  refine C.region ?_
  refine G.moveP rfl trivial rfl rfl rfl ?_
  refine G.moveS rfl trivial rfl rfl rfl ?_
  refine G.call E8 rfl rfl trivial rfl rfl (make_ok W0 [] _ bd bl dN hokN hliveN 0 (by omega) a0 c0 a ha (fun _ => q0 _)) rfl ?_
  rintro e L2 ⟨bs, sg, hsg, rfl, rfl⟩
  have hokA := mkD_ok hokN hliveN 0 ha
  have hliveA : (mkD dN 0 a).live := mkD_live hliveN 0 a
  have hlenA : (mkD dN 0 a).l.length = 2 := by rw [mkD_length]; exact hlenN
  have hclA : (mkD dN 0 a).clean := flush_clean _
  have hsA : Slots (mkD dN 0 a) (oldP a) 1 := Slots.made dN hokN hliveN 0 (by omega) ha
  have hzA : nowAt (mkD dN 0 a) 1 = zero64 := by rw [mkD_now dN hokN hliveN 0 (by omega) ha, if_neg (by decide), if_pos rfl]
  generalize mkD dN 0 a = dA at *
  obtain ⟨p, t, hpt, hsC, hres⟩ := crash_holds dA hokA hliveA hlenA hclA hsA hzA hb f hf ks
  have hokF := Dv.setFuse_ok hokA (n := f) (by omega)
  have hlenF : (dA.setFuse f).l.length = 2 := by rw [setFuse_l]; exact hlenA
  have hokS := swr_ok hokF 1 (x := sectS 2 b) (by rw [sectS_length 2 (by omega)]; exact Nat.le_refl _)
  have hlenS : (swr (dA.setFuse f) 1 (sectS 2 b)).1.l.length = 2 := by rw [swr_length]; exact hlenF
  refine G.moveU rfl trivial rfl rfl rfl ?_
  refine G.extractL rfl trivial rfl rfl rfl rfl ?_
  refine G.extractL rfl trivial rfl rfl rfl rfl ?_
  refine G.assignP rfl trivial rfl rfl rfl ?_
  refine G.assignI rfl trivial rfl rfl rfl ?_
  refine G.nil ?_
  refine C.seq ?_
  refine C.seq ?_
  refine C.region ?_
  refine G.moveI rfl trivial rfl rfl rfl ?_
  refine G.bin rfl trivial rfl rfl rfl rfl rfl ?_
  refine G.nil ?_
  refine C.no rfl (by simp) ?_
  refine C.skip ?_
  refine C.seq ?_
  refine C.region ?_
  refine G.moveP rfl trivial rfl rfl rfl ?_
  refine G.moveI rfl trivial rfl rfl rfl ?_
  refine G.call E18 rfl rfl trivial rfl rfl (fuse_spec W0 [_] _ bd bl dA f) rfl ?_
  rintro e L2 ⟨rfl, rfl⟩
  refine G.nil ?_
  refine C.seq ?_
  refine C.region ?_
  refine G.moveP rfl trivial rfl rfl rfl ?_
  refine G.moveS rfl trivial rfl rfl rfl ?_
  refine G.call E11 rfl rfl trivial rfl rfl (save_spec W0 _ bs bd bl (dA.setFuse f) hokF (oldP a) sg hsg 1 rfl (by decide) (Nat.zero_le _) (by show 0 + 1 < _; omega) a1 c1 b hb (fun _ => q1 _)) rfl ?_
  rintro e L2 ⟨sg1, hL, hsg1, rfl⟩
  simp only [show (oldP a).at_ + (1 - (oldP a).slot) = 1 from rfl, show (1 : Nat) + 1 = 2 from rfl] at hL hsg1 ⊢
  subst hL
  generalize swr (dA.setFuse f) 1 (sectS 2 b) = w at *
  obtain ⟨dS, e⟩ := w
  simp only at hsC hres hokS hlenS hsg1 ⊢
  have hturn : (if e = 0 then { oldP a with slot := 1 - (oldP a).slot, turn := ((1 + 1 : Nat) : Int), text := b } else oldP a : Sp).turn = if e = 0 then 2 else 1 := by split <;> rfl
  refine G.assignI rfl trivial rfl rfl rfl ?_
  refine G.nil ?_
  refine C.seq ?_
  refine C.region ?_
  refine G.moveP rfl trivial rfl rfl rfl ?_
  refine G.call E13 rfl rfl trivial rfl rfl (turn_spec W0 [] _ bs bd _ sg1 hsg1) rfl ?_
  rintro e L2 ⟨rfl, rfl⟩
  rw [hturn]
  have hpl : p.at_ = 0 ∧ p.text.length ≤ 40 ∧ t ≤ 2 := by rcases hpt with ⟨rfl, rfl⟩ | ⟨rfl, rfl⟩ <;> exact ⟨rfl, by assumption, by decide⟩
  refine G.assignI rfl trivial rfl rfl rfl ?_
  refine G.nil ?_
  refine C.seq ?_
  refine C.region ?_
  refine G.moveP rfl trivial rfl rfl rfl ?_
  refine G.moveS rfl trivial rfl rfl rfl ?_
  refine G.call E15 rfl rfl trivial rfl rfl (crash_spec W0 [_] _ bd bl dS hokS (by omega) a4 c4 ks h4 (fun _ => r4 _)) rfl ?_
  rintro e L2 ⟨bc, bcl, rfl, rfl⟩
  have hokC := crash_ok hokS ks
  have hliveC := crash_live dS ks
  have hlenC : (dS.crash ks).l.length = 2 := by rw [crash_len]; exact hlenS
  generalize dS.crash ks = dC at *
  refine G.assignP rfl trivial rfl rfl rfl ?_
  refine G.nil ?_
  refine C.seq ?_
  refine C.region ?_
  refine G.moveP rfl trivial rfl rfl rfl ?_
  refine G.call E9 rfl rfl trivial rfl rfl (open_slots W0 [] _ bc bcl dC hokC p t hsC (by omega) (by omega) (by omega)) rfl ?_
  rintro e L2 ⟨bt, st, hst, rfl, rfl⟩
  refine G.moveU rfl trivial rfl rfl rfl ?_
  refine G.extractL rfl trivial rfl rfl rfl rfl ?_
  refine G.extractL rfl trivial rfl rfl rfl rfl ?_
  refine G.assignP rfl trivial rfl rfl rfl ?_
  refine G.assignI rfl trivial rfl rfl rfl ?_
  refine G.nil ?_
  refine C.seq ?_
  refine C.seq ?_
  refine C.region ?_
  refine G.moveI rfl trivial rfl rfl rfl ?_
  refine G.bin rfl trivial rfl rfl rfl rfl rfl ?_
  refine G.no (t := 65) rfl (by simp) ?_
  refine G.moveB rfl trivial rfl rfl rfl ?_
  by_cases he : e = 0
  ·
    subst he
    obtain ⟨rfl, rfl⟩ : p = newP b ∧ t = 2 := by rcases hres with h | h; exact h.2; simp at h
    refine G.moveI rfl ⟨_, rfl, rfl, rfl⟩ rfl rfl rfl ?_
    refine G.bin rfl ⟨_, rfl, rfl, rfl⟩ rfl rfl rfl rfl rfl ?_
    refine G.yes (t := 68) rfl (by simp) ?_
    refine G.moveI rfl ⟨_, rfl, rfl, rfl⟩ rfl rfl rfl ?_
    refine G.bin rfl ⟨_, rfl, rfl, rfl⟩ rfl rfl rfl rfl rfl ?_
    refine G.yes (t := 70) rfl (by simp) ?_
    refine G.boolNe rfl ⟨_, rfl, rfl, rfl⟩ rfl rfl Try.underlying4 rfl rfl ?_
    first | refine G.pickT rfl trivial rfl rfl rfl rfl ?_ | refine G.pickF rfl trivial rfl rfl rfl rfl ?_
    refine G.nil ?_
    refine C.condF rfl ?_
    refine C.skip ?_
    refine C.seq ?_
    refine C.drawn mixed (_) [] (fun _ h => h) ?_
    refine GA.pure (i := 0) (fun _ _ _ _ _ h => h) rfl (by kernel_rfl) trivial rfl rfl (Y.moveP rfl rfl) (#[true, false, false, false, false, false, false, false, false, false, false, false]) (by kernel_rfl) ?_
    refine GA.one (i := 1) rfl (by kernel_rfl) (#[true, true, false, false, false, false, false, false, false, false, false, false]) (by kernel_rfl) ?_
    refine G.call E13 rfl rfl trivial rfl rfl (turn_spec W0 [] _ bt bc _ st hst) rfl ?_
    rintro e L2 ⟨rfl, rfl⟩
    refine G.nil ?_
    refine ⟨fun _ _ h => (by first | exact h | exact h.tail | exact h.tail.tail), ?_⟩
    refine GA.fix (d := 74) (v := .int .i64 2) rfl ?_
    refine GA.pure (i := 2) (fun _ _ _ _ _ h => h) rfl (by kernel_rfl) trivial rfl rfl (Y.bin rfl rfl rfl rfl) (#[true, true, true, false, false, false, false, false, false, false, false, false]) (by kernel_rfl) ?_
    refine GA.no (t := 75) rfl (by decide) ?_
    refine GA.pure (i := 3) (fun _ _ _ _ _ h => h) rfl (by kernel_rfl) trivial rfl rfl (Y.moveB rfl rfl) (#[true, true, true, true, false, false, false, false, false, false, false, false]) (by kernel_rfl) ?_
    refine GA.skip (i := 4) (fun _ _ _ _ _ h => h) rfl (by kernel_rfl) rfl rfl rfl rfl rfl rfl (#[true, true, true, true, true, false, false, false, false, false, false, false]) (by kernel_rfl) ?_
    refine GA.skip (i := 7) (fun _ _ _ _ _ h => h) rfl (by kernel_rfl) rfl rfl rfl rfl rfl rfl (#[true, true, true, true, true, false, false, true, false, false, false, false]) (by kernel_rfl) ?_
    refine GA.skip (i := 8) (fun _ _ _ _ _ h => h) rfl (by kernel_rfl) rfl rfl rfl rfl rfl rfl (#[true, true, true, true, true, false, false, true, true, false, false, false]) (by kernel_rfl) ?_
    refine GA.skip (i := 5) (fun _ _ _ _ _ h => h) rfl (by kernel_rfl) rfl rfl rfl rfl rfl rfl (#[true, true, true, true, true, true, false, true, true, false, false, false]) (by kernel_rfl) ?_
    refine GA.skip (i := 6) (fun _ _ _ _ _ h => h) rfl (by kernel_rfl) rfl rfl rfl rfl rfl rfl (#[true, true, true, true, true, true, true, true, true, false, false, false]) (by kernel_rfl) ?_
    refine GA.skip (i := 9) (fun _ _ _ _ _ h => h) rfl (by kernel_rfl) rfl rfl rfl rfl rfl rfl (#[true, true, true, true, true, true, true, true, true, true, false, false]) (by kernel_rfl) ?_
    first | refine GA.pure (i := 10) (fun _ _ _ _ _ h => h) rfl (by kernel_rfl) trivial rfl rfl (Y.pickT rfl rfl rfl) (#[true, true, true, true, true, true, true, true, true, true, true, false]) (by kernel_rfl) ?_ | refine GA.pure (i := 10) (fun _ _ _ _ _ h => h) rfl (by kernel_rfl) trivial rfl rfl (Y.pickF rfl rfl rfl) (#[true, true, true, true, true, true, true, true, true, true, true, false]) (by kernel_rfl) ?_
    refine GA.pure (i := 11) (fun _ _ _ _ _ h => h) rfl (by kernel_rfl) trivial rfl rfl (Y.assignB rfl rfl) (#[true, true, true, true, true, true, true, true, true, true, true, true]) (by kernel_rfl) ?_
    refine GA.done (by kernel_rfl) ?_
    refine C.seq ?_
    refine C.drawn mixed (_) [] (fun _ h => h) ?_
    refine GA.pure (i := 0) (fun _ _ _ _ _ h => h) rfl (by kernel_rfl) trivial rfl rfl (Y.moveP rfl rfl) (#[true, false, false, false, false, false, false, false, false, false, false, false]) (by kernel_rfl) ?_
    refine GA.one (i := 1) rfl (by kernel_rfl) (#[true, true, false, false, false, false, false, false, false, false, false, false]) (by kernel_rfl) ?_
    refine G.call E13 rfl rfl trivial rfl rfl (turn_spec W0 [] _ bt bc _ st hst) rfl ?_
    rintro e L2 ⟨rfl, rfl⟩
    refine G.nil ?_
    refine ⟨fun _ _ h => (by first | exact h | exact h.tail | exact h.tail.tail), ?_⟩
    refine GA.fix (d := 85) (v := .int .i64 2) rfl ?_
    refine GA.pure (i := 2) (fun _ _ _ _ _ h => h) rfl (by kernel_rfl) trivial rfl rfl (Y.bin rfl rfl rfl rfl) (#[true, true, true, false, false, false, false, false, false, false, false, false]) (by kernel_rfl) ?_
    refine GA.yes (t := 86) rfl rfl ?_
    refine GA.pure (i := 3) (fun _ _ _ _ _ h => h) rfl (by kernel_rfl) trivial rfl rfl (Y.moveB rfl rfl) (#[true, true, true, true, false, false, false, false, false, false, false, false]) (by kernel_rfl) ?_
    refine GA.pure (i := 4) (fun _ _ _ _ _ h => h) rfl (by kernel_rfl) ⟨_, rfl, rfl, rfl⟩ rfl rfl (Y.moveP rfl rfl) (#[true, true, true, true, true, false, false, false, false, false, false, false]) (by kernel_rfl) ?_
    refine GA.pure (i := 7) (fun _ _ _ _ _ h => h) rfl (by kernel_rfl) ⟨_, rfl, rfl, rfl⟩ rfl rfl (Y.moveS rfl rfl) (#[true, true, true, true, true, false, false, true, false, false, false, false]) (by kernel_rfl) ?_
    refine GA.read (i := 8) (fun _ _ _ _ _ h => h) rfl (by kernel_rfl) (by kernel_rfl) ⟨_, rfl, rfl, rfl⟩ rfl rfl (Y.bytesStr b rfl Try.underlying28 Try.underlying5 Try.underlying9 rfl rfl (q1 _)) (#[true, true, true, true, true, false, false, true, true, false, false, false]) (by kernel_rfl) ?_
    refine GA.one (i := 5) rfl (by kernel_rfl) (#[true, true, true, true, true, true, false, true, true, false, false, false]) (by kernel_rfl) ?_
    refine G.call E12 rfl rfl ⟨_, rfl, rfl, rfl⟩ rfl rfl (text_spec W0 [] _ bt bc _ st hst (by show b.length ≤ 1000; omega)) rfl ?_
    rintro e L2 ⟨v89, s89, hv89, rfl, rfl⟩
    obtain ⟨a89, c89, rfl, hr89⟩ := hv89.form
    refine G.nil ?_
    refine ⟨fun _ _ h => (by first | exact h | exact h.tail | exact h.tail.tail), ?_⟩
    refine GA.one (i := 6) rfl (by kernel_rfl) (#[true, true, true, true, true, true, true, true, true, false, false, false]) (by kernel_rfl) ?_
    refine G.bytesStr b rfl ⟨_, rfl, rfl, rfl⟩ rfl rfl Try.underlying28 Try.underlying5 Try.underlying9 rfl rfl (hr89 _ _) ?_
    refine G.nil ?_
    refine ⟨fun _ _ h => (by first | exact h | exact h.tail | exact h.tail.tail), ?_⟩
    refine GA.pure (i := 9) (fun _ _ _ _ _ h => h) rfl (by kernel_rfl) ⟨_, rfl, rfl, rfl⟩ rfl rfl (Y.strEq rfl  rfl rfl) (#[true, true, true, true, true, true, true, true, true, true, false, false]) (by kernel_rfl) ?_
    refine GA.yes (t := 93) rfl rfl ?_
    first | refine GA.pure (i := 10) (fun _ _ _ _ _ h => h) rfl (by kernel_rfl) trivial rfl rfl (Y.pickT rfl rfl rfl) (#[true, true, true, true, true, true, true, true, true, true, true, false]) (by kernel_rfl) ?_ | refine GA.pure (i := 10) (fun _ _ _ _ _ h => h) rfl (by kernel_rfl) trivial rfl rfl (Y.pickF rfl rfl rfl) (#[true, true, true, true, true, true, true, true, true, true, true, false]) (by kernel_rfl) ?_
    refine GA.pure (i := 11) (fun _ _ _ _ _ h => h) rfl (by kernel_rfl) trivial rfl rfl (Y.assignB rfl rfl) (#[true, true, true, true, true, true, true, true, true, true, true, true]) (by kernel_rfl) ?_
    refine GA.done (by kernel_rfl) ?_
    refine C.seq ?_
    refine C.seq ?_
    refine C.region ?_
    refine G.less (fun _ h => h.tail) ?_
    refine G.moveB rfl trivial rfl rfl rfl ?_
    first | refine G.notD rfl trivial rfl rfl rfl ?_ | refine G.not rfl trivial rfl rfl rfl ?_
    refine G.moveB rfl trivial rfl rfl rfl ?_
    refine G.moveB rfl ⟨_, rfl, rfl, rfl⟩ rfl rfl rfl ?_
    first | refine G.notD rfl ⟨_, rfl, rfl, rfl⟩ rfl rfl rfl ?_ | refine G.not rfl ⟨_, rfl, rfl, rfl⟩ rfl rfl rfl ?_
    refine G.fix (d := 99) (v := .bool false) rfl ?_
    first | refine G.pickT rfl trivial rfl rfl rfl rfl ?_ | refine G.pickF rfl trivial rfl rfl rfl rfl ?_
    refine G.moveB rfl trivial rfl rfl rfl ?_
    refine G.moveI rfl ⟨_, rfl, rfl, rfl⟩ rfl rfl rfl ?_
    refine G.bin rfl ⟨_, rfl, rfl, rfl⟩ rfl rfl rfl rfl rfl ?_
    refine G.yes (t := 103) rfl rfl ?_
    refine G.moveB rfl ⟨_, rfl, rfl, rfl⟩ rfl rfl rfl ?_
    refine G.moveB rfl ⟨_, rfl, rfl, rfl⟩ rfl rfl rfl ?_
    first | refine G.notD rfl ⟨_, rfl, rfl, rfl⟩ rfl rfl rfl ?_ | refine G.not rfl ⟨_, rfl, rfl, rfl⟩ rfl rfl rfl ?_
    refine G.fix (d := 106) (v := .bool false) rfl ?_
    first | refine G.pickT rfl ⟨_, rfl, rfl, rfl⟩ rfl rfl rfl rfl ?_ | refine G.pickF rfl ⟨_, rfl, rfl, rfl⟩ rfl rfl rfl rfl ?_
    first | refine G.pickT rfl trivial rfl rfl rfl rfl ?_ | refine G.pickF rfl trivial rfl rfl rfl rfl ?_
    refine G.nil ?_
    refine C.condF rfl ?_
    refine C.skip ?_
    refine C.seq ?_
    refine C.region ?_
    refine G.moveP rfl trivial rfl rfl rfl ?_
    refine G.call E13 rfl rfl trivial rfl rfl (turn_spec W0 [] _ bt bc _ st hst) rfl ?_
    rintro e L2 ⟨rfl, rfl⟩
    refine G.fix (d := 110) (v := .int .i64 2) rfl ?_
    refine G.assignI rfl trivial rfl rfl rfl ?_
    refine G.nil ?_
    refine C.seq ?_
    refine C.seq ?_
    refine C.region ?_
    refine G.moveP rfl trivial rfl rfl rfl ?_
    refine G.moveS rfl trivial rfl rfl rfl ?_
    refine G.call E11 rfl rfl trivial rfl rfl (save_live W0 _ bt bc bcl dC hokC hliveC (newP b) st hst 2 hsC (by decide) (by show 0 + 1 < _; omega) a2 _ c2 c rfl hc (fun _ => q2 _)) rfl ?_
    rintro e L2 ⟨st2, rfl, hst2, rfl⟩
    have hokD := sav_ok hokC hliveC (newP b) 2 hc
    have hlenD : (sav dC (newP b) 2 c).l.length = 2 := by rw [sav_length]; exact hlenC
    have hsD := hsC.saved hokC (by show 0 + 1 < _; omega) hc
    have hsE := hsD.crash (flush_clean _) []
    change Slots ((sav dC (newP b) 2 c).crash []) _ _ at hsE
    have hokE := crash_ok hokD []
    have hlenE : ((sav dC (newP b) 2 c).crash []).l.length = 2 := by rw [crash_len]; exact hlenD
    generalize sav dC (newP b) 2 c = dD at *
    refine G.bin rfl trivial rfl rfl rfl rfl rfl ?_
    refine G.no (t := 114) rfl (by simp) ?_
    refine G.nil ?_
    refine C.condF rfl ?_
    refine C.skip ?_
    refine C.seq ?_
    refine C.region ?_
    refine G.moveP rfl trivial rfl rfl rfl ?_
    refine G.call E15 rfl rfl trivial rfl rfl (crash_spec W0 [_] _ bc bcl dD hokD (by omega) none 0 [] (Nat.le_refl _) (fun _ => Rd.nil)) rfl ?_
    rintro e L2 ⟨be, bel, rfl, rfl⟩
    generalize dD.crash [] = dE at *
    refine G.call E9 rfl rfl trivial rfl rfl (open_slots W0 [] _ be bel dE hokE (nextP (newP b) 2 c) (2 + 1) hsE (by decide) (by show 0 + 1 < _; omega) rfl) rfl ?_
    rintro e L2 ⟨bu, su, hsu, rfl, rfl⟩
    refine G.moveU rfl trivial rfl rfl rfl ?_
    refine G.extractL rfl trivial rfl rfl rfl rfl ?_
    refine G.extractL rfl trivial rfl rfl rfl rfl ?_
    refine G.assignP rfl trivial rfl rfl rfl ?_
    refine G.assignI rfl trivial rfl rfl rfl ?_
    refine G.nil ?_
    refine C.seq ?_
    refine C.drawn mixed (_) [] (fun _ h => h) ?_
    refine GA.pure (i := 0) (fun _ _ _ _ _ h => h) rfl (by kernel_rfl) trivial rfl rfl (Y.moveI rfl rfl) (#[true, false, false, false, false, false, false, false, false, false, false, false, false, false, false, false, false, false]) (by kernel_rfl) ?_
    refine GA.pure (i := 1) (fun _ _ _ _ _ h => h) rfl (by kernel_rfl) trivial rfl rfl (Y.bin rfl rfl rfl rfl) (#[true, true, false, false, false, false, false, false, false, false, false, false, false, false, false, false, false, false]) (by kernel_rfl) ?_
    refine GA.yes (t := 122) rfl rfl ?_
    refine GA.pure (i := 2) (fun _ _ _ _ _ h => h) rfl (by kernel_rfl) trivial rfl rfl (Y.moveB rfl rfl) (#[true, true, true, false, false, false, false, false, false, false, false, false, false, false, false, false, false, false]) (by kernel_rfl) ?_
    refine GA.pure (i := 3) (fun _ _ _ _ _ h => h) rfl (by kernel_rfl) ⟨_, rfl, rfl, rfl⟩ rfl rfl (Y.moveP rfl rfl) (#[true, true, true, true, false, false, false, false, false, false, false, false, false, false, false, false, false, false]) (by kernel_rfl) ?_
    refine GA.pure (i := 5) (fun _ _ _ _ _ h => h) rfl (by kernel_rfl) ⟨_, rfl, rfl, rfl⟩ rfl rfl (Y.moveI rfl rfl) (#[true, true, true, true, false, true, false, false, false, false, false, false, false, false, false, false, false, false]) (by kernel_rfl) ?_
    refine GA.pure (i := 6) (fun _ _ _ _ _ h => h) rfl (by kernel_rfl) ⟨_, rfl, rfl, rfl⟩ rfl rfl (Y.add rfl rfl rfl (by omega)) (#[true, true, true, true, false, true, true, false, false, false, false, false, false, false, false, false, false, false]) (by kernel_rfl) ?_
    refine GA.one (i := 4) rfl (by kernel_rfl) (#[true, true, true, true, true, true, true, false, false, false, false, false, false, false, false, false, false, false]) (by kernel_rfl) ?_
    refine G.call E13 rfl rfl ⟨_, rfl, rfl, rfl⟩ rfl rfl (turn_spec W0 [] _ bu be (nextP (newP b) 2 c) su hsu) rfl ?_
    rintro e L2 ⟨rfl, rfl⟩
    refine G.nil ?_
    refine ⟨fun _ _ h => (by first | exact h | exact h.tail | exact h.tail.tail), ?_⟩
    refine GA.fix (d := 125) (v := .int .i64 3) rfl ?_
    refine GA.pure (i := 7) (fun _ _ _ _ _ h => h) rfl (by kernel_rfl) ⟨_, rfl, rfl, rfl⟩ rfl rfl (Y.bin rfl rfl rfl rfl) (#[true, true, true, true, true, true, true, true, false, false, false, false, false, false, false, false, false, false]) (by kernel_rfl) ?_
    refine GA.yes (t := 128) rfl rfl ?_
    first | refine GA.pure (i := 8) (fun _ _ _ _ _ h => h) rfl (by kernel_rfl) trivial rfl rfl (Y.pickT rfl rfl rfl) (#[true, true, true, true, true, true, true, true, true, false, false, false, false, false, false, false, false, false]) (by kernel_rfl) ?_ | refine GA.pure (i := 8) (fun _ _ _ _ _ h => h) rfl (by kernel_rfl) trivial rfl rfl (Y.pickF rfl rfl rfl) (#[true, true, true, true, true, true, true, true, true, false, false, false, false, false, false, false, false, false]) (by kernel_rfl) ?_
    refine GA.pure (i := 9) (fun _ _ _ _ _ h => h) rfl (by kernel_rfl) trivial rfl rfl (Y.moveB rfl rfl) (#[true, true, true, true, true, true, true, true, true, true, false, false, false, false, false, false, false, false]) (by kernel_rfl) ?_
    refine GA.pure (i := 10) (fun _ _ _ _ _ h => h) rfl (by kernel_rfl) ⟨_, rfl, rfl, rfl⟩ rfl rfl (Y.moveP rfl rfl) (#[true, true, true, true, true, true, true, true, true, true, true, false, false, false, false, false, false, false]) (by kernel_rfl) ?_
    refine GA.pure (i := 13) (fun _ _ _ _ _ h => h) rfl (by kernel_rfl) ⟨_, rfl, rfl, rfl⟩ rfl rfl (Y.moveS rfl rfl) (#[true, true, true, true, true, true, true, true, true, true, true, false, false, true, false, false, false, false]) (by kernel_rfl) ?_
    refine GA.read (i := 14) (fun _ _ _ _ _ h => h) rfl (by kernel_rfl) (by kernel_rfl) ⟨_, rfl, rfl, rfl⟩ rfl rfl (Y.bytesStr c rfl Try.underlying28 Try.underlying5 Try.underlying9 rfl rfl (q2 _)) (#[true, true, true, true, true, true, true, true, true, true, true, false, false, true, true, false, false, false]) (by kernel_rfl) ?_
    refine GA.one (i := 11) rfl (by kernel_rfl) (#[true, true, true, true, true, true, true, true, true, true, true, true, false, true, true, false, false, false]) (by kernel_rfl) ?_
    refine G.call E12 rfl rfl ⟨_, rfl, rfl, rfl⟩ rfl rfl (text_spec W0 [] _ bu be (nextP (newP b) 2 c) su hsu (by show c.length ≤ 1000; omega)) rfl ?_
    rintro e L2 ⟨v132, s132, hv132, rfl, rfl⟩
    obtain ⟨a132, c132, rfl, hr132⟩ := hv132.form
    refine G.nil ?_
    refine ⟨fun _ _ h => (by first | exact h | exact h.tail | exact h.tail.tail), ?_⟩
    refine GA.one (i := 12) rfl (by kernel_rfl) (#[true, true, true, true, true, true, true, true, true, true, true, true, true, true, true, false, false, false]) (by kernel_rfl) ?_
    refine G.bytesStr c rfl ⟨_, rfl, rfl, rfl⟩ rfl rfl Try.underlying28 Try.underlying5 Try.underlying9 rfl rfl (hr132 _ _) ?_
    refine G.nil ?_
    refine ⟨fun _ _ h => (by first | exact h | exact h.tail | exact h.tail.tail), ?_⟩
    refine GA.pure (i := 15) (fun _ _ _ _ _ h => h) rfl (by kernel_rfl) ⟨_, rfl, rfl, rfl⟩ rfl rfl (Y.strEq rfl  rfl rfl) (#[true, true, true, true, true, true, true, true, true, true, true, true, true, true, true, true, false, false]) (by kernel_rfl) ?_
    refine GA.yes (t := 136) rfl rfl ?_
    first | refine GA.pure (i := 16) (fun _ _ _ _ _ h => h) rfl (by kernel_rfl) trivial rfl rfl (Y.pickT rfl rfl rfl) (#[true, true, true, true, true, true, true, true, true, true, true, true, true, true, true, true, true, false]) (by kernel_rfl) ?_ | refine GA.pure (i := 16) (fun _ _ _ _ _ h => h) rfl (by kernel_rfl) trivial rfl rfl (Y.pickF rfl rfl rfl) (#[true, true, true, true, true, true, true, true, true, true, true, true, true, true, true, true, true, false]) (by kernel_rfl) ?_
    refine GA.pure (i := 17) (fun _ _ _ _ _ h => h) rfl (by kernel_rfl) trivial rfl rfl (Y.assignB rfl rfl) (#[true, true, true, true, true, true, true, true, true, true, true, true, true, true, true, true, true, true]) (by kernel_rfl) ?_
    refine GA.done (by kernel_rfl) ?_
    refine C.ret ?_
    -- end x67T
    exact ⟨rfl, _, Res.of (rs := [.tmp 10]) rfl rfl, rfl⟩
  ·
    obtain rfl : e = 5 := by rcases hres with h | h; exact absurd h.1 he; exact h
    refine G.moveI rfl ⟨_, rfl, rfl, rfl⟩ rfl rfl rfl ?_
    refine G.bin rfl ⟨_, rfl, rfl, rfl⟩ rfl rfl rfl rfl rfl ?_
    refine G.no (t := 68) rfl (by simp) ?_
    refine G.moveI rfl ⟨_, rfl, rfl, rfl⟩ rfl rfl rfl ?_
    refine G.bin rfl ⟨_, rfl, rfl, rfl⟩ rfl rfl rfl rfl rfl ?_
    refine G.no (t := 70) rfl (by simp) ?_
    refine G.boolNe rfl ⟨_, rfl, rfl, rfl⟩ rfl rfl Try.underlying4 rfl rfl ?_
    first | refine G.pickT rfl trivial rfl rfl rfl rfl ?_ | refine G.pickF rfl trivial rfl rfl rfl rfl ?_
    refine G.nil ?_
    refine C.condF rfl ?_
    refine C.skip ?_
    refine C.seq ?_
    refine C.drawn mixed (_) [] (fun _ h => h) ?_
    refine GA.pure (i := 0) (fun _ _ _ _ _ h => h) rfl (by kernel_rfl) trivial rfl rfl (Y.moveP rfl rfl) (#[true, false, false, false, false, false, false, false, false, false, false, false]) (by kernel_rfl) ?_
    by_cases ht1 : t = 1
    ·
      obtain rfl : p = oldP a := by rcases hpt with h | h; exact h.1; omega
      subst ht1
      refine GA.one (i := 1) rfl (by kernel_rfl) (#[true, true, false, false, false, false, false, false, false, false, false, false]) (by kernel_rfl) ?_
      refine G.call E13 rfl rfl trivial rfl rfl (turn_spec W0 [] _ bt bc _ st hst) rfl ?_
      rintro e L2 ⟨rfl, rfl⟩
      refine G.nil ?_
      refine ⟨fun _ _ h => (by first | exact h | exact h.tail | exact h.tail.tail), ?_⟩
      refine GA.fix (d := 74) (v := .int .i64 1) rfl ?_
      refine GA.pure (i := 2) (fun _ _ _ _ _ h => h) rfl (by kernel_rfl) trivial rfl rfl (Y.bin rfl rfl rfl rfl) (#[true, true, true, false, false, false, false, false, false, false, false, false]) (by kernel_rfl) ?_
      refine GA.yes (t := 75) rfl rfl ?_
      refine GA.pure (i := 3) (fun _ _ _ _ _ h => h) rfl (by kernel_rfl) trivial rfl rfl (Y.moveB rfl rfl) (#[true, true, true, true, false, false, false, false, false, false, false, false]) (by kernel_rfl) ?_
      refine GA.pure (i := 4) (fun _ _ _ _ _ h => h) rfl (by kernel_rfl) ⟨_, rfl, rfl, rfl⟩ rfl rfl (Y.moveP rfl rfl) (#[true, true, true, true, true, false, false, false, false, false, false, false]) (by kernel_rfl) ?_
      refine GA.pure (i := 7) (fun _ _ _ _ _ h => h) rfl (by kernel_rfl) ⟨_, rfl, rfl, rfl⟩ rfl rfl (Y.moveS rfl rfl) (#[true, true, true, true, true, false, false, true, false, false, false, false]) (by kernel_rfl) ?_
      refine GA.read (i := 8) (fun _ _ _ _ _ h => h) rfl (by kernel_rfl) (by kernel_rfl) ⟨_, rfl, rfl, rfl⟩ rfl rfl (Y.bytesStr a rfl Try.underlying28 Try.underlying5 Try.underlying9 rfl rfl (q0 _)) (#[true, true, true, true, true, false, false, true, true, false, false, false]) (by kernel_rfl) ?_
      refine GA.one (i := 5) rfl (by kernel_rfl) (#[true, true, true, true, true, true, false, true, true, false, false, false]) (by kernel_rfl) ?_
      refine G.call E12 rfl rfl ⟨_, rfl, rfl, rfl⟩ rfl rfl (text_spec W0 [] _ bt bc _ st hst (by show a.length ≤ 1000; omega)) rfl ?_
      rintro e L2 ⟨v78, s78, hv78, rfl, rfl⟩
      obtain ⟨a78, c78, rfl, hr78⟩ := hv78.form
      refine G.nil ?_
      refine ⟨fun _ _ h => (by first | exact h | exact h.tail | exact h.tail.tail), ?_⟩
      refine GA.one (i := 6) rfl (by kernel_rfl) (#[true, true, true, true, true, true, true, true, true, false, false, false]) (by kernel_rfl) ?_
      refine G.bytesStr a rfl ⟨_, rfl, rfl, rfl⟩ rfl rfl Try.underlying28 Try.underlying5 Try.underlying9 rfl rfl (hr78 _ _) ?_
      refine G.nil ?_
      refine ⟨fun _ _ h => (by first | exact h | exact h.tail | exact h.tail.tail), ?_⟩
      refine GA.pure (i := 9) (fun _ _ _ _ _ h => h) rfl (by kernel_rfl) ⟨_, rfl, rfl, rfl⟩ rfl rfl (Y.strEq rfl  rfl rfl) (#[true, true, true, true, true, true, true, true, true, true, false, false]) (by kernel_rfl) ?_
      refine GA.yes (t := 82) rfl rfl ?_
      first | refine GA.pure (i := 10) (fun _ _ _ _ _ h => h) rfl (by kernel_rfl) trivial rfl rfl (Y.pickT rfl rfl rfl) (#[true, true, true, true, true, true, true, true, true, true, true, false]) (by kernel_rfl) ?_ | refine GA.pure (i := 10) (fun _ _ _ _ _ h => h) rfl (by kernel_rfl) trivial rfl rfl (Y.pickF rfl rfl rfl) (#[true, true, true, true, true, true, true, true, true, true, true, false]) (by kernel_rfl) ?_
      refine GA.pure (i := 11) (fun _ _ _ _ _ h => h) rfl (by kernel_rfl) trivial rfl rfl (Y.assignB rfl rfl) (#[true, true, true, true, true, true, true, true, true, true, true, true]) (by kernel_rfl) ?_
      refine GA.done (by kernel_rfl) ?_
      refine C.seq ?_
      refine C.drawn mixed (_) [] (fun _ h => h) ?_
      refine GA.pure (i := 0) (fun _ _ _ _ _ h => h) rfl (by kernel_rfl) trivial rfl rfl (Y.moveP rfl rfl) (#[true, false, false, false, false, false, false, false, false, false, false, false]) (by kernel_rfl) ?_
      refine GA.one (i := 1) rfl (by kernel_rfl) (#[true, true, false, false, false, false, false, false, false, false, false, false]) (by kernel_rfl) ?_
      refine G.call E13 rfl rfl trivial rfl rfl (turn_spec W0 [_] _ bt bc _ st hst) rfl ?_
      rintro e L2 ⟨rfl, rfl⟩
      refine G.nil ?_
      refine ⟨fun _ _ h => (by first | exact h | exact h.tail | exact h.tail.tail), ?_⟩
      refine GA.fix (d := 85) (v := .int .i64 1) rfl ?_
      refine GA.pure (i := 2) (fun _ _ _ _ _ h => h) rfl (by kernel_rfl) trivial rfl rfl (Y.bin rfl rfl rfl rfl) (#[true, true, true, false, false, false, false, false, false, false, false, false]) (by kernel_rfl) ?_
      refine GA.no (t := 86) rfl (by decide) ?_
      refine GA.pure (i := 3) (fun _ _ _ _ _ h => h) rfl (by kernel_rfl) trivial rfl rfl (Y.moveB rfl rfl) (#[true, true, true, true, false, false, false, false, false, false, false, false]) (by kernel_rfl) ?_
      refine GA.skip (i := 4) (fun _ _ _ _ _ h => h) rfl (by kernel_rfl) rfl rfl rfl rfl rfl rfl (#[true, true, true, true, true, false, false, false, false, false, false, false]) (by kernel_rfl) ?_
      refine GA.skip (i := 7) (fun _ _ _ _ _ h => h) rfl (by kernel_rfl) rfl rfl rfl rfl rfl rfl (#[true, true, true, true, true, false, false, true, false, false, false, false]) (by kernel_rfl) ?_
      refine GA.skip (i := 8) (fun _ _ _ _ _ h => h) rfl (by kernel_rfl) rfl rfl rfl rfl rfl rfl (#[true, true, true, true, true, false, false, true, true, false, false, false]) (by kernel_rfl) ?_
      refine GA.skip (i := 5) (fun _ _ _ _ _ h => h) rfl (by kernel_rfl) rfl rfl rfl rfl rfl rfl (#[true, true, true, true, true, true, false, true, true, false, false, false]) (by kernel_rfl) ?_
      refine GA.skip (i := 6) (fun _ _ _ _ _ h => h) rfl (by kernel_rfl) rfl rfl rfl rfl rfl rfl (#[true, true, true, true, true, true, true, true, true, false, false, false]) (by kernel_rfl) ?_
      refine GA.skip (i := 9) (fun _ _ _ _ _ h => h) rfl (by kernel_rfl) rfl rfl rfl rfl rfl rfl (#[true, true, true, true, true, true, true, true, true, true, false, false]) (by kernel_rfl) ?_
      first | refine GA.pure (i := 10) (fun _ _ _ _ _ h => h) rfl (by kernel_rfl) trivial rfl rfl (Y.pickT rfl rfl rfl) (#[true, true, true, true, true, true, true, true, true, true, true, false]) (by kernel_rfl) ?_ | refine GA.pure (i := 10) (fun _ _ _ _ _ h => h) rfl (by kernel_rfl) trivial rfl rfl (Y.pickF rfl rfl rfl) (#[true, true, true, true, true, true, true, true, true, true, true, false]) (by kernel_rfl) ?_
      refine GA.pure (i := 11) (fun _ _ _ _ _ h => h) rfl (by kernel_rfl) trivial rfl rfl (Y.assignB rfl rfl) (#[true, true, true, true, true, true, true, true, true, true, true, true]) (by kernel_rfl) ?_
      refine GA.done (by kernel_rfl) ?_
      refine C.seq ?_
      refine C.seq ?_
      refine C.region ?_
      refine G.less (fun _ h => h.tail) ?_
      refine G.moveB rfl trivial rfl rfl rfl ?_
      first | refine G.notD rfl trivial rfl rfl rfl ?_ | refine G.not rfl trivial rfl rfl rfl ?_
      refine G.fix (d := 96) (v := .bool false) rfl ?_
      refine G.moveB rfl trivial rfl rfl rfl ?_
      refine G.skip rfl rfl rfl rfl rfl rfl ?_
      refine G.skip rfl rfl rfl rfl rfl rfl ?_
      first | refine G.pickT rfl trivial rfl rfl rfl rfl ?_ | refine G.pickF rfl trivial rfl rfl rfl rfl ?_
      refine G.moveB rfl trivial rfl rfl rfl ?_
      refine G.moveI rfl ⟨_, rfl, rfl, rfl⟩ rfl rfl rfl ?_
      refine G.bin rfl ⟨_, rfl, rfl, rfl⟩ rfl rfl rfl rfl rfl ?_
      refine G.no (t := 103) rfl (by decide) ?_
      refine G.moveB rfl ⟨_, rfl, rfl, rfl⟩ rfl rfl rfl ?_
      refine G.skip rfl rfl rfl rfl rfl rfl ?_
      refine G.skip rfl rfl rfl rfl rfl rfl ?_
      first | refine G.pickT rfl ⟨_, rfl, rfl, rfl⟩ rfl rfl rfl rfl ?_ | refine G.pickF rfl ⟨_, rfl, rfl, rfl⟩ rfl rfl rfl rfl ?_
      first | refine G.pickT rfl trivial rfl rfl rfl rfl ?_ | refine G.pickF rfl trivial rfl rfl rfl rfl ?_
      refine G.nil ?_
      refine C.condF rfl ?_
      refine C.skip ?_
      refine C.seq ?_
      refine C.region ?_
      refine G.moveP rfl trivial rfl rfl rfl ?_
      refine G.call E13 rfl rfl trivial rfl rfl (turn_spec W0 [] _ bt bc _ st hst) rfl ?_
      rintro e L2 ⟨rfl, rfl⟩
      refine G.fix (d := 110) (v := .int .i64 1) rfl ?_
      refine G.assignI rfl trivial rfl rfl rfl ?_
      refine G.nil ?_
      refine C.seq ?_
      refine C.seq ?_
      refine C.region ?_
      refine G.moveP rfl trivial rfl rfl rfl ?_
      refine G.moveS rfl trivial rfl rfl rfl ?_
      refine G.call E11 rfl rfl trivial rfl rfl (save_live W0 _ bt bc bcl dC hokC hliveC (oldP a) st hst 1 hsC (by decide) (by show 0 + 1 < _; omega) a2 _ c2 c rfl hc (fun _ => q2 _)) rfl ?_
      rintro e L2 ⟨st2, rfl, hst2, rfl⟩
      have hokD := sav_ok hokC hliveC (oldP a) 1 hc
      have hlenD : (sav dC (oldP a) 1 c).l.length = 2 := by rw [sav_length]; exact hlenC
      have hsD := hsC.saved hokC (by show 0 + 1 < _; omega) hc
      have hsE := hsD.crash (flush_clean _) []
      change Slots ((sav dC (oldP a) 1 c).crash []) _ _ at hsE
      have hokE := crash_ok hokD []
      have hlenE : ((sav dC (oldP a) 1 c).crash []).l.length = 2 := by rw [crash_len]; exact hlenD
      generalize sav dC (oldP a) 1 c = dD at *
      refine G.bin rfl trivial rfl rfl rfl rfl rfl ?_
      refine G.no (t := 114) rfl (by simp) ?_
      refine G.nil ?_
      refine C.condF rfl ?_
      refine C.skip ?_
      refine C.seq ?_
      refine C.region ?_
      refine G.moveP rfl trivial rfl rfl rfl ?_
      refine G.call E15 rfl rfl trivial rfl rfl (crash_spec W0 [_] _ bc bcl dD hokD (by omega) none 0 [] (Nat.le_refl _) (fun _ => Rd.nil)) rfl ?_
      rintro e L2 ⟨be, bel, rfl, rfl⟩
      generalize dD.crash [] = dE at *
      refine G.call E9 rfl rfl trivial rfl rfl (open_slots W0 [] _ be bel dE hokE (nextP (oldP a) 1 c) (1 + 1) hsE (by decide) (by show 0 + 1 < _; omega) rfl) rfl ?_
      rintro e L2 ⟨bu, su, hsu, rfl, rfl⟩
      refine G.moveU rfl trivial rfl rfl rfl ?_
      refine G.extractL rfl trivial rfl rfl rfl rfl ?_
      refine G.extractL rfl trivial rfl rfl rfl rfl ?_
      refine G.assignP rfl trivial rfl rfl rfl ?_
      refine G.assignI rfl trivial rfl rfl rfl ?_
      refine G.nil ?_
      refine C.seq ?_
      refine C.drawn mixed (_) [] (fun _ h => h) ?_
      refine GA.pure (i := 0) (fun _ _ _ _ _ h => h) rfl (by kernel_rfl) trivial rfl rfl (Y.moveI rfl rfl) (#[true, false, false, false, false, false, false, false, false, false, false, false, false, false, false, false, false, false]) (by kernel_rfl) ?_
      refine GA.pure (i := 1) (fun _ _ _ _ _ h => h) rfl (by kernel_rfl) trivial rfl rfl (Y.bin rfl rfl rfl rfl) (#[true, true, false, false, false, false, false, false, false, false, false, false, false, false, false, false, false, false]) (by kernel_rfl) ?_
      refine GA.yes (t := 122) rfl rfl ?_
      refine GA.pure (i := 2) (fun _ _ _ _ _ h => h) rfl (by kernel_rfl) trivial rfl rfl (Y.moveB rfl rfl) (#[true, true, true, false, false, false, false, false, false, false, false, false, false, false, false, false, false, false]) (by kernel_rfl) ?_
      refine GA.pure (i := 3) (fun _ _ _ _ _ h => h) rfl (by kernel_rfl) ⟨_, rfl, rfl, rfl⟩ rfl rfl (Y.moveP rfl rfl) (#[true, true, true, true, false, false, false, false, false, false, false, false, false, false, false, false, false, false]) (by kernel_rfl) ?_
      refine GA.pure (i := 5) (fun _ _ _ _ _ h => h) rfl (by kernel_rfl) ⟨_, rfl, rfl, rfl⟩ rfl rfl (Y.moveI rfl rfl) (#[true, true, true, true, false, true, false, false, false, false, false, false, false, false, false, false, false, false]) (by kernel_rfl) ?_
      refine GA.pure (i := 6) (fun _ _ _ _ _ h => h) rfl (by kernel_rfl) ⟨_, rfl, rfl, rfl⟩ rfl rfl (Y.add rfl rfl rfl (by omega)) (#[true, true, true, true, false, true, true, false, false, false, false, false, false, false, false, false, false, false]) (by kernel_rfl) ?_
      refine GA.one (i := 4) rfl (by kernel_rfl) (#[true, true, true, true, true, true, true, false, false, false, false, false, false, false, false, false, false, false]) (by kernel_rfl) ?_
      refine G.call E13 rfl rfl ⟨_, rfl, rfl, rfl⟩ rfl rfl (turn_spec W0 [] _ bu be (nextP (oldP a) 1 c) su hsu) rfl ?_
      rintro e L2 ⟨rfl, rfl⟩
      refine G.nil ?_
      refine ⟨fun _ _ h => (by first | exact h | exact h.tail | exact h.tail.tail), ?_⟩
      refine GA.fix (d := 125) (v := .int .i64 2) rfl ?_
      refine GA.pure (i := 7) (fun _ _ _ _ _ h => h) rfl (by kernel_rfl) ⟨_, rfl, rfl, rfl⟩ rfl rfl (Y.bin rfl rfl rfl rfl) (#[true, true, true, true, true, true, true, true, false, false, false, false, false, false, false, false, false, false]) (by kernel_rfl) ?_
      refine GA.yes (t := 128) rfl rfl ?_
      first | refine GA.pure (i := 8) (fun _ _ _ _ _ h => h) rfl (by kernel_rfl) trivial rfl rfl (Y.pickT rfl rfl rfl) (#[true, true, true, true, true, true, true, true, true, false, false, false, false, false, false, false, false, false]) (by kernel_rfl) ?_ | refine GA.pure (i := 8) (fun _ _ _ _ _ h => h) rfl (by kernel_rfl) trivial rfl rfl (Y.pickF rfl rfl rfl) (#[true, true, true, true, true, true, true, true, true, false, false, false, false, false, false, false, false, false]) (by kernel_rfl) ?_
      refine GA.pure (i := 9) (fun _ _ _ _ _ h => h) rfl (by kernel_rfl) trivial rfl rfl (Y.moveB rfl rfl) (#[true, true, true, true, true, true, true, true, true, true, false, false, false, false, false, false, false, false]) (by kernel_rfl) ?_
      refine GA.pure (i := 10) (fun _ _ _ _ _ h => h) rfl (by kernel_rfl) ⟨_, rfl, rfl, rfl⟩ rfl rfl (Y.moveP rfl rfl) (#[true, true, true, true, true, true, true, true, true, true, true, false, false, false, false, false, false, false]) (by kernel_rfl) ?_
      refine GA.pure (i := 13) (fun _ _ _ _ _ h => h) rfl (by kernel_rfl) ⟨_, rfl, rfl, rfl⟩ rfl rfl (Y.moveS rfl rfl) (#[true, true, true, true, true, true, true, true, true, true, true, false, false, true, false, false, false, false]) (by kernel_rfl) ?_
      refine GA.read (i := 14) (fun _ _ _ _ _ h => h) rfl (by kernel_rfl) (by kernel_rfl) ⟨_, rfl, rfl, rfl⟩ rfl rfl (Y.bytesStr c rfl Try.underlying28 Try.underlying5 Try.underlying9 rfl rfl (q2 _)) (#[true, true, true, true, true, true, true, true, true, true, true, false, false, true, true, false, false, false]) (by kernel_rfl) ?_
      refine GA.one (i := 11) rfl (by kernel_rfl) (#[true, true, true, true, true, true, true, true, true, true, true, true, false, true, true, false, false, false]) (by kernel_rfl) ?_
      refine G.call E12 rfl rfl ⟨_, rfl, rfl, rfl⟩ rfl rfl (text_spec W0 [] _ bu be (nextP (oldP a) 1 c) su hsu (by show c.length ≤ 1000; omega)) rfl ?_
      rintro e L2 ⟨v132, s132, hv132, rfl, rfl⟩
      obtain ⟨a132, c132, rfl, hr132⟩ := hv132.form
      refine G.nil ?_
      refine ⟨fun _ _ h => (by first | exact h | exact h.tail | exact h.tail.tail), ?_⟩
      refine GA.one (i := 12) rfl (by kernel_rfl) (#[true, true, true, true, true, true, true, true, true, true, true, true, true, true, true, false, false, false]) (by kernel_rfl) ?_
      refine G.bytesStr c rfl ⟨_, rfl, rfl, rfl⟩ rfl rfl Try.underlying28 Try.underlying5 Try.underlying9 rfl rfl (hr132 _ _) ?_
      refine G.nil ?_
      refine ⟨fun _ _ h => (by first | exact h | exact h.tail | exact h.tail.tail), ?_⟩
      refine GA.pure (i := 15) (fun _ _ _ _ _ h => h) rfl (by kernel_rfl) ⟨_, rfl, rfl, rfl⟩ rfl rfl (Y.strEq rfl  rfl rfl) (#[true, true, true, true, true, true, true, true, true, true, true, true, true, true, true, true, false, false]) (by kernel_rfl) ?_
      refine GA.yes (t := 136) rfl rfl ?_
      first | refine GA.pure (i := 16) (fun _ _ _ _ _ h => h) rfl (by kernel_rfl) trivial rfl rfl (Y.pickT rfl rfl rfl) (#[true, true, true, true, true, true, true, true, true, true, true, true, true, true, true, true, true, false]) (by kernel_rfl) ?_ | refine GA.pure (i := 16) (fun _ _ _ _ _ h => h) rfl (by kernel_rfl) trivial rfl rfl (Y.pickF rfl rfl rfl) (#[true, true, true, true, true, true, true, true, true, true, true, true, true, true, true, true, true, false]) (by kernel_rfl) ?_
      refine GA.pure (i := 17) (fun _ _ _ _ _ h => h) rfl (by kernel_rfl) trivial rfl rfl (Y.assignB rfl rfl) (#[true, true, true, true, true, true, true, true, true, true, true, true, true, true, true, true, true, true]) (by kernel_rfl) ?_
      refine GA.done (by kernel_rfl) ?_
      refine C.ret ?_
      -- end x67Fx74T
      exact ⟨rfl, _, Res.of (rs := [.tmp 10]) rfl rfl, rfl⟩
    ·
      obtain ⟨rfl, rfl⟩ : p = newP b ∧ t = 2 := by rcases hpt with h | h; exact absurd h.2 ht1; exact h
      refine GA.one (i := 1) rfl (by kernel_rfl) (#[true, true, false, false, false, false, false, false, false, false, false, false]) (by kernel_rfl) ?_
      refine G.call E13 rfl rfl trivial rfl rfl (turn_spec W0 [] _ bt bc _ st hst) rfl ?_
      rintro e L2 ⟨rfl, rfl⟩
      refine G.nil ?_
      refine ⟨fun _ _ h => (by first | exact h | exact h.tail | exact h.tail.tail), ?_⟩
      refine GA.fix (d := 74) (v := .int .i64 2) rfl ?_
      refine GA.pure (i := 2) (fun _ _ _ _ _ h => h) rfl (by kernel_rfl) trivial rfl rfl (Y.bin rfl rfl rfl rfl) (#[true, true, true, false, false, false, false, false, false, false, false, false]) (by kernel_rfl) ?_
      refine GA.no (t := 75) rfl (by decide) ?_
      refine GA.pure (i := 3) (fun _ _ _ _ _ h => h) rfl (by kernel_rfl) trivial rfl rfl (Y.moveB rfl rfl) (#[true, true, true, true, false, false, false, false, false, false, false, false]) (by kernel_rfl) ?_
      refine GA.skip (i := 4) (fun _ _ _ _ _ h => h) rfl (by kernel_rfl) rfl rfl rfl rfl rfl rfl (#[true, true, true, true, true, false, false, false, false, false, false, false]) (by kernel_rfl) ?_
      refine GA.skip (i := 7) (fun _ _ _ _ _ h => h) rfl (by kernel_rfl) rfl rfl rfl rfl rfl rfl (#[true, true, true, true, true, false, false, true, false, false, false, false]) (by kernel_rfl) ?_
      refine GA.skip (i := 8) (fun _ _ _ _ _ h => h) rfl (by kernel_rfl) rfl rfl rfl rfl rfl rfl (#[true, true, true, true, true, false, false, true, true, false, false, false]) (by kernel_rfl) ?_
      refine GA.skip (i := 5) (fun _ _ _ _ _ h => h) rfl (by kernel_rfl) rfl rfl rfl rfl rfl rfl (#[true, true, true, true, true, true, false, true, true, false, false, false]) (by kernel_rfl) ?_
      refine GA.skip (i := 6) (fun _ _ _ _ _ h => h) rfl (by kernel_rfl) rfl rfl rfl rfl rfl rfl (#[true, true, true, true, true, true, true, true, true, false, false, false]) (by kernel_rfl) ?_
      refine GA.skip (i := 9) (fun _ _ _ _ _ h => h) rfl (by kernel_rfl) rfl rfl rfl rfl rfl rfl (#[true, true, true, true, true, true, true, true, true, true, false, false]) (by kernel_rfl) ?_
      first | refine GA.pure (i := 10) (fun _ _ _ _ _ h => h) rfl (by kernel_rfl) trivial rfl rfl (Y.pickT rfl rfl rfl) (#[true, true, true, true, true, true, true, true, true, true, true, false]) (by kernel_rfl) ?_ | refine GA.pure (i := 10) (fun _ _ _ _ _ h => h) rfl (by kernel_rfl) trivial rfl rfl (Y.pickF rfl rfl rfl) (#[true, true, true, true, true, true, true, true, true, true, true, false]) (by kernel_rfl) ?_
      refine GA.pure (i := 11) (fun _ _ _ _ _ h => h) rfl (by kernel_rfl) trivial rfl rfl (Y.assignB rfl rfl) (#[true, true, true, true, true, true, true, true, true, true, true, true]) (by kernel_rfl) ?_
      refine GA.done (by kernel_rfl) ?_
      refine C.seq ?_
      refine C.drawn mixed (_) [] (fun _ h => h) ?_
      refine GA.pure (i := 0) (fun _ _ _ _ _ h => h) rfl (by kernel_rfl) trivial rfl rfl (Y.moveP rfl rfl) (#[true, false, false, false, false, false, false, false, false, false, false, false]) (by kernel_rfl) ?_
      refine GA.one (i := 1) rfl (by kernel_rfl) (#[true, true, false, false, false, false, false, false, false, false, false, false]) (by kernel_rfl) ?_
      refine G.call E13 rfl rfl trivial rfl rfl (turn_spec W0 [] _ bt bc _ st hst) rfl ?_
      rintro e L2 ⟨rfl, rfl⟩
      refine G.nil ?_
      refine ⟨fun _ _ h => (by first | exact h | exact h.tail | exact h.tail.tail), ?_⟩
      refine GA.fix (d := 85) (v := .int .i64 2) rfl ?_
      refine GA.pure (i := 2) (fun _ _ _ _ _ h => h) rfl (by kernel_rfl) trivial rfl rfl (Y.bin rfl rfl rfl rfl) (#[true, true, true, false, false, false, false, false, false, false, false, false]) (by kernel_rfl) ?_
      refine GA.yes (t := 86) rfl rfl ?_
      refine GA.pure (i := 3) (fun _ _ _ _ _ h => h) rfl (by kernel_rfl) trivial rfl rfl (Y.moveB rfl rfl) (#[true, true, true, true, false, false, false, false, false, false, false, false]) (by kernel_rfl) ?_
      refine GA.pure (i := 4) (fun _ _ _ _ _ h => h) rfl (by kernel_rfl) ⟨_, rfl, rfl, rfl⟩ rfl rfl (Y.moveP rfl rfl) (#[true, true, true, true, true, false, false, false, false, false, false, false]) (by kernel_rfl) ?_
      refine GA.pure (i := 7) (fun _ _ _ _ _ h => h) rfl (by kernel_rfl) ⟨_, rfl, rfl, rfl⟩ rfl rfl (Y.moveS rfl rfl) (#[true, true, true, true, true, false, false, true, false, false, false, false]) (by kernel_rfl) ?_
      refine GA.read (i := 8) (fun _ _ _ _ _ h => h) rfl (by kernel_rfl) (by kernel_rfl) ⟨_, rfl, rfl, rfl⟩ rfl rfl (Y.bytesStr b rfl Try.underlying28 Try.underlying5 Try.underlying9 rfl rfl (q1 _)) (#[true, true, true, true, true, false, false, true, true, false, false, false]) (by kernel_rfl) ?_
      refine GA.one (i := 5) rfl (by kernel_rfl) (#[true, true, true, true, true, true, false, true, true, false, false, false]) (by kernel_rfl) ?_
      refine G.call E12 rfl rfl ⟨_, rfl, rfl, rfl⟩ rfl rfl (text_spec W0 [] _ bt bc _ st hst (by show b.length ≤ 1000; omega)) rfl ?_
      rintro e L2 ⟨v89, s89, hv89, rfl, rfl⟩
      obtain ⟨a89, c89, rfl, hr89⟩ := hv89.form
      refine G.nil ?_
      refine ⟨fun _ _ h => (by first | exact h | exact h.tail | exact h.tail.tail), ?_⟩
      refine GA.one (i := 6) rfl (by kernel_rfl) (#[true, true, true, true, true, true, true, true, true, false, false, false]) (by kernel_rfl) ?_
      refine G.bytesStr b rfl ⟨_, rfl, rfl, rfl⟩ rfl rfl Try.underlying28 Try.underlying5 Try.underlying9 rfl rfl (hr89 _ _) ?_
      refine G.nil ?_
      refine ⟨fun _ _ h => (by first | exact h | exact h.tail | exact h.tail.tail), ?_⟩
      refine GA.pure (i := 9) (fun _ _ _ _ _ h => h) rfl (by kernel_rfl) ⟨_, rfl, rfl, rfl⟩ rfl rfl (Y.strEq rfl  rfl rfl) (#[true, true, true, true, true, true, true, true, true, true, false, false]) (by kernel_rfl) ?_
      refine GA.yes (t := 93) rfl rfl ?_
      first | refine GA.pure (i := 10) (fun _ _ _ _ _ h => h) rfl (by kernel_rfl) trivial rfl rfl (Y.pickT rfl rfl rfl) (#[true, true, true, true, true, true, true, true, true, true, true, false]) (by kernel_rfl) ?_ | refine GA.pure (i := 10) (fun _ _ _ _ _ h => h) rfl (by kernel_rfl) trivial rfl rfl (Y.pickF rfl rfl rfl) (#[true, true, true, true, true, true, true, true, true, true, true, false]) (by kernel_rfl) ?_
      refine GA.pure (i := 11) (fun _ _ _ _ _ h => h) rfl (by kernel_rfl) trivial rfl rfl (Y.assignB rfl rfl) (#[true, true, true, true, true, true, true, true, true, true, true, true]) (by kernel_rfl) ?_
      refine GA.done (by kernel_rfl) ?_
      refine C.seq ?_
      refine C.seq ?_
      refine C.region ?_
      refine G.less (fun _ h => h.tail) ?_
      refine G.moveB rfl trivial rfl rfl rfl ?_
      first | refine G.notD rfl trivial rfl rfl rfl ?_ | refine G.not rfl trivial rfl rfl rfl ?_
      refine G.moveB rfl trivial rfl rfl rfl ?_
      refine G.moveB rfl ⟨_, rfl, rfl, rfl⟩ rfl rfl rfl ?_
      first | refine G.notD rfl ⟨_, rfl, rfl, rfl⟩ rfl rfl rfl ?_ | refine G.not rfl ⟨_, rfl, rfl, rfl⟩ rfl rfl rfl ?_
      refine G.fix (d := 99) (v := .bool false) rfl ?_
      first | refine G.pickT rfl trivial rfl rfl rfl rfl ?_ | refine G.pickF rfl trivial rfl rfl rfl rfl ?_
      refine G.moveB rfl trivial rfl rfl rfl ?_
      refine G.moveI rfl ⟨_, rfl, rfl, rfl⟩ rfl rfl rfl ?_
      refine G.bin rfl ⟨_, rfl, rfl, rfl⟩ rfl rfl rfl rfl rfl ?_
      refine G.no (t := 103) rfl (by decide) ?_
      refine G.moveB rfl ⟨_, rfl, rfl, rfl⟩ rfl rfl rfl ?_
      refine G.skip rfl rfl rfl rfl rfl rfl ?_
      refine G.skip rfl rfl rfl rfl rfl rfl ?_
      first | refine G.pickT rfl ⟨_, rfl, rfl, rfl⟩ rfl rfl rfl rfl ?_ | refine G.pickF rfl ⟨_, rfl, rfl, rfl⟩ rfl rfl rfl rfl ?_
      first | refine G.pickT rfl trivial rfl rfl rfl rfl ?_ | refine G.pickF rfl trivial rfl rfl rfl rfl ?_
      refine G.nil ?_
      refine C.condF rfl ?_
      refine C.skip ?_
      refine C.seq ?_
      refine C.region ?_
      refine G.moveP rfl trivial rfl rfl rfl ?_
      refine G.call E13 rfl rfl trivial rfl rfl (turn_spec W0 [] _ bt bc _ st hst) rfl ?_
      rintro e L2 ⟨rfl, rfl⟩
      refine G.fix (d := 110) (v := .int .i64 2) rfl ?_
      refine G.assignI rfl trivial rfl rfl rfl ?_
      refine G.nil ?_
      refine C.seq ?_
      refine C.seq ?_
      refine C.region ?_
      refine G.moveP rfl trivial rfl rfl rfl ?_
      refine G.moveS rfl trivial rfl rfl rfl ?_
      refine G.call E11 rfl rfl trivial rfl rfl (save_live W0 _ bt bc bcl dC hokC hliveC (newP b) st hst 2 hsC (by decide) (by show 0 + 1 < _; omega) a2 _ c2 c rfl hc (fun _ => q2 _)) rfl ?_
      rintro e L2 ⟨st2, rfl, hst2, rfl⟩
      have hokD := sav_ok hokC hliveC (newP b) 2 hc
      have hlenD : (sav dC (newP b) 2 c).l.length = 2 := by rw [sav_length]; exact hlenC
      have hsD := hsC.saved hokC (by show 0 + 1 < _; omega) hc
      have hsE := hsD.crash (flush_clean _) []
      change Slots ((sav dC (newP b) 2 c).crash []) _ _ at hsE
      have hokE := crash_ok hokD []
      have hlenE : ((sav dC (newP b) 2 c).crash []).l.length = 2 := by rw [crash_len]; exact hlenD
      generalize sav dC (newP b) 2 c = dD at *
      refine G.bin rfl trivial rfl rfl rfl rfl rfl ?_
      refine G.no (t := 114) rfl (by simp) ?_
      refine G.nil ?_
      refine C.condF rfl ?_
      refine C.skip ?_
      refine C.seq ?_
      refine C.region ?_
      refine G.moveP rfl trivial rfl rfl rfl ?_
      refine G.call E15 rfl rfl trivial rfl rfl (crash_spec W0 [_] _ bc bcl dD hokD (by omega) none 0 [] (Nat.le_refl _) (fun _ => Rd.nil)) rfl ?_
      rintro e L2 ⟨be, bel, rfl, rfl⟩
      generalize dD.crash [] = dE at *
      refine G.call E9 rfl rfl trivial rfl rfl (open_slots W0 [] _ be bel dE hokE (nextP (newP b) 2 c) (2 + 1) hsE (by decide) (by show 0 + 1 < _; omega) rfl) rfl ?_
      rintro e L2 ⟨bu, su, hsu, rfl, rfl⟩
      refine G.moveU rfl trivial rfl rfl rfl ?_
      refine G.extractL rfl trivial rfl rfl rfl rfl ?_
      refine G.extractL rfl trivial rfl rfl rfl rfl ?_
      refine G.assignP rfl trivial rfl rfl rfl ?_
      refine G.assignI rfl trivial rfl rfl rfl ?_
      refine G.nil ?_
      refine C.seq ?_
      refine C.drawn mixed (_) [] (fun _ h => h) ?_
      refine GA.pure (i := 0) (fun _ _ _ _ _ h => h) rfl (by kernel_rfl) trivial rfl rfl (Y.moveI rfl rfl) (#[true, false, false, false, false, false, false, false, false, false, false, false, false, false, false, false, false, false]) (by kernel_rfl) ?_
      refine GA.pure (i := 1) (fun _ _ _ _ _ h => h) rfl (by kernel_rfl) trivial rfl rfl (Y.bin rfl rfl rfl rfl) (#[true, true, false, false, false, false, false, false, false, false, false, false, false, false, false, false, false, false]) (by kernel_rfl) ?_
      refine GA.yes (t := 122) rfl rfl ?_
      refine GA.pure (i := 2) (fun _ _ _ _ _ h => h) rfl (by kernel_rfl) trivial rfl rfl (Y.moveB rfl rfl) (#[true, true, true, false, false, false, false, false, false, false, false, false, false, false, false, false, false, false]) (by kernel_rfl) ?_
      refine GA.pure (i := 3) (fun _ _ _ _ _ h => h) rfl (by kernel_rfl) ⟨_, rfl, rfl, rfl⟩ rfl rfl (Y.moveP rfl rfl) (#[true, true, true, true, false, false, false, false, false, false, false, false, false, false, false, false, false, false]) (by kernel_rfl) ?_
      refine GA.pure (i := 5) (fun _ _ _ _ _ h => h) rfl (by kernel_rfl) ⟨_, rfl, rfl, rfl⟩ rfl rfl (Y.moveI rfl rfl) (#[true, true, true, true, false, true, false, false, false, false, false, false, false, false, false, false, false, false]) (by kernel_rfl) ?_
      refine GA.pure (i := 6) (fun _ _ _ _ _ h => h) rfl (by kernel_rfl) ⟨_, rfl, rfl, rfl⟩ rfl rfl (Y.add rfl rfl rfl (by omega)) (#[true, true, true, true, false, true, true, false, false, false, false, false, false, false, false, false, false, false]) (by kernel_rfl) ?_
      refine GA.one (i := 4) rfl (by kernel_rfl) (#[true, true, true, true, true, true, true, false, false, false, false, false, false, false, false, false, false, false]) (by kernel_rfl) ?_
      refine G.call E13 rfl rfl ⟨_, rfl, rfl, rfl⟩ rfl rfl (turn_spec W0 [] _ bu be (nextP (newP b) 2 c) su hsu) rfl ?_
      rintro e L2 ⟨rfl, rfl⟩
      refine G.nil ?_
      refine ⟨fun _ _ h => (by first | exact h | exact h.tail | exact h.tail.tail), ?_⟩
      refine GA.fix (d := 125) (v := .int .i64 3) rfl ?_
      refine GA.pure (i := 7) (fun _ _ _ _ _ h => h) rfl (by kernel_rfl) ⟨_, rfl, rfl, rfl⟩ rfl rfl (Y.bin rfl rfl rfl rfl) (#[true, true, true, true, true, true, true, true, false, false, false, false, false, false, false, false, false, false]) (by kernel_rfl) ?_
      refine GA.yes (t := 128) rfl rfl ?_
      first | refine GA.pure (i := 8) (fun _ _ _ _ _ h => h) rfl (by kernel_rfl) trivial rfl rfl (Y.pickT rfl rfl rfl) (#[true, true, true, true, true, true, true, true, true, false, false, false, false, false, false, false, false, false]) (by kernel_rfl) ?_ | refine GA.pure (i := 8) (fun _ _ _ _ _ h => h) rfl (by kernel_rfl) trivial rfl rfl (Y.pickF rfl rfl rfl) (#[true, true, true, true, true, true, true, true, true, false, false, false, false, false, false, false, false, false]) (by kernel_rfl) ?_
      refine GA.pure (i := 9) (fun _ _ _ _ _ h => h) rfl (by kernel_rfl) trivial rfl rfl (Y.moveB rfl rfl) (#[true, true, true, true, true, true, true, true, true, true, false, false, false, false, false, false, false, false]) (by kernel_rfl) ?_
      refine GA.pure (i := 10) (fun _ _ _ _ _ h => h) rfl (by kernel_rfl) ⟨_, rfl, rfl, rfl⟩ rfl rfl (Y.moveP rfl rfl) (#[true, true, true, true, true, true, true, true, true, true, true, false, false, false, false, false, false, false]) (by kernel_rfl) ?_
      refine GA.pure (i := 13) (fun _ _ _ _ _ h => h) rfl (by kernel_rfl) ⟨_, rfl, rfl, rfl⟩ rfl rfl (Y.moveS rfl rfl) (#[true, true, true, true, true, true, true, true, true, true, true, false, false, true, false, false, false, false]) (by kernel_rfl) ?_
      refine GA.read (i := 14) (fun _ _ _ _ _ h => h) rfl (by kernel_rfl) (by kernel_rfl) ⟨_, rfl, rfl, rfl⟩ rfl rfl (Y.bytesStr c rfl Try.underlying28 Try.underlying5 Try.underlying9 rfl rfl (q2 _)) (#[true, true, true, true, true, true, true, true, true, true, true, false, false, true, true, false, false, false]) (by kernel_rfl) ?_
      refine GA.one (i := 11) rfl (by kernel_rfl) (#[true, true, true, true, true, true, true, true, true, true, true, true, false, true, true, false, false, false]) (by kernel_rfl) ?_
      refine G.call E12 rfl rfl ⟨_, rfl, rfl, rfl⟩ rfl rfl (text_spec W0 [] _ bu be (nextP (newP b) 2 c) su hsu (by show c.length ≤ 1000; omega)) rfl ?_
      rintro e L2 ⟨v132, s132, hv132, rfl, rfl⟩
      obtain ⟨a132, c132, rfl, hr132⟩ := hv132.form
      refine G.nil ?_
      refine ⟨fun _ _ h => (by first | exact h | exact h.tail | exact h.tail.tail), ?_⟩
      refine GA.one (i := 12) rfl (by kernel_rfl) (#[true, true, true, true, true, true, true, true, true, true, true, true, true, true, true, false, false, false]) (by kernel_rfl) ?_
      refine G.bytesStr c rfl ⟨_, rfl, rfl, rfl⟩ rfl rfl Try.underlying28 Try.underlying5 Try.underlying9 rfl rfl (hr132 _ _) ?_
      refine G.nil ?_
      refine ⟨fun _ _ h => (by first | exact h | exact h.tail | exact h.tail.tail), ?_⟩
      refine GA.pure (i := 15) (fun _ _ _ _ _ h => h) rfl (by kernel_rfl) ⟨_, rfl, rfl, rfl⟩ rfl rfl (Y.strEq rfl  rfl rfl) (#[true, true, true, true, true, true, true, true, true, true, true, true, true, true, true, true, false, false]) (by kernel_rfl) ?_
      refine GA.yes (t := 136) rfl rfl ?_
      first | refine GA.pure (i := 16) (fun _ _ _ _ _ h => h) rfl (by kernel_rfl) trivial rfl rfl (Y.pickT rfl rfl rfl) (#[true, true, true, true, true, true, true, true, true, true, true, true, true, true, true, true, true, false]) (by kernel_rfl) ?_ | refine GA.pure (i := 16) (fun _ _ _ _ _ h => h) rfl (by kernel_rfl) trivial rfl rfl (Y.pickF rfl rfl rfl) (#[true, true, true, true, true, true, true, true, true, true, true, true, true, true, true, true, true, false]) (by kernel_rfl) ?_
      refine GA.pure (i := 17) (fun _ _ _ _ _ h => h) rfl (by kernel_rfl) trivial rfl rfl (Y.assignB rfl rfl) (#[true, true, true, true, true, true, true, true, true, true, true, true, true, true, true, true, true, true]) (by kernel_rfl) ?_
      refine GA.done (by kernel_rfl) ?_
      refine C.ret ?_
      -- end x67Fx74F
      exact ⟨rfl, _, Res.of (rs := [.tmp 10]) rfl rfl, rfl⟩
theorem crash_walk_no (W0 : World) (a0 a1 a2 a4 : Option Addr) (c0 c1 c2 c4 m4 : Nat) (xs0 xs1 xs2 : List UInt8) (f : Int) (hf : ¬ (0 ≤ f ∧ f ≤ 5)) (h0 : xs0.length ≤ c0) (h1 : xs1.length ≤ c1) (h2 : xs2.length ≤ c2) :
    FnS Try.prog W0 5 #[.slice a0 xs0.length c0, .slice a1 xs1.length c1, .slice a2 xs2.length c2, .int .i64 f, .slice a4 m4 c4] [] (fun e _ => e = .returned (.bool true)) := by
  refine FnS.of (args := [.slice a0 xs0.length c0, .slice a1 xs1.length c1, .slice a2 xs2.length c2, .int .i64 f, .slice a4 m4 c4]) Try.func5 rfl rfl ?_
  refine C.seq ?_
  refine C.region ?_
  refine G.assignB rfl trivial rfl rfl rfl ?_
  refine G.nil ?_
  refine C.seq ?_
  refine C.region ?_
  refine G.call E10 rfl rfl trivial rfl rfl (beganS_spec W0 _) rfl ?_
  rintro e L2 ⟨rfl, rfl⟩
  refine G.assignB rfl trivial rfl rfl rfl ?_
  refine G.nil ?_
  refine C.seq ?_
  refine C.seq ?_
  refine C.region ?_
  refine G.moveB rfl trivial rfl rfl rfl ?_
  first | refine G.notD rfl trivial rfl rfl rfl ?_ | refine G.not rfl trivial rfl rfl rfl ?_
  refine G.nil ?_
  refine C.condF rfl ?_
  refine C.skip ?_
  refine C.seq ?_
  refine C.region ?_
  refine G.moveS rfl trivial rfl rfl rfl ?_
  refine G.call E17 rfl rfl trivial rfl rfl (short_u8 W0 _ a0 c0 xs0 40 rfl h0) rfl ?_
  rintro e L2 ⟨rfl, rfl⟩
  refine G.moveS rfl trivial rfl rfl rfl ?_
  refine G.call E17 rfl rfl trivial rfl rfl (short_u8 W0 _ a1 c1 xs1 40 rfl h1) rfl ?_
  rintro e L2 ⟨rfl, rfl⟩
  refine G.moveS rfl trivial rfl rfl rfl ?_
  refine G.call E17 rfl rfl trivial rfl rfl (short_u8 W0 _ a2 c2 xs2 40 rfl h2) rfl ?_
  rintro e L2 ⟨rfl, rfl⟩
  refine G.assignS rfl trivial rfl rfl rfl ?_
  refine G.assignS rfl trivial rfl rfl rfl ?_
  refine G.assignS rfl trivial rfl rfl rfl ?_
  refine G.nil ?_
  refine C.seq ?_
  refine C.seq ?_
  refine C.region ?_
  refine G.moveI rfl trivial rfl rfl rfl ?_
  refine G.bin rfl trivial rfl rfl rfl rfl rfl ?_
  refine G.moveB rfl trivial rfl rfl rfl ?_
  refine G.fork (t := 35) _ rfl ?_ ?_
  · intro hg35
    refine G.skip rfl rfl rfl rfl rfl rfl ?_
    refine G.skip rfl rfl rfl rfl rfl rfl ?_
    first | refine G.pickT rfl trivial rfl rfl rfl rfl ?_ | refine G.pickF rfl trivial rfl rfl rfl rfl ?_
    refine G.nil ?_
    refine C.condT rfl ?_
    refine C.seq ?_
    refine C.region ?_
    refine G.assignB rfl trivial rfl rfl rfl ?_
    refine G.nil ?_
    refine C.ret ?_
    -- end g35T
    exact ⟨rfl, _, Res.of (rs := [.tmp 10]) rfl rfl, rfl⟩
  · intro hg35
    refine G.moveI rfl ⟨_, rfl, rfl, rfl⟩ rfl rfl rfl ?_
    refine G.bin rfl ⟨_, rfl, rfl, rfl⟩ rfl rfl rfl rfl rfl ?_
    first | refine G.pickT rfl trivial rfl rfl rfl rfl ?_ | refine G.pickF rfl trivial rfl rfl rfl rfl ?_
    refine G.nil ?_
    refine C.cond _ rfl ?_ ?_
    · intro hc1
      refine C.seq ?_
      refine C.region ?_
      refine G.assignB rfl trivial rfl rfl rfl ?_
      refine G.nil ?_
      refine C.ret ?_
      -- end g35Fc1T
      exact ⟨rfl, _, Res.of (rs := [.tmp 10]) rfl rfl, rfl⟩
    · intro hc1
      omega
end Go.Proofs.Ytmfaoeeddafcfaa
