/-
  The law SuperSaves, walked.
-/
import Derived.Test.YtmfaoeeddafcfaaSu5
namespace Go.Proofs.Ytmfaoeeddafcfaa
open Go Go.SL Go.RowKit

theorem clampN_id {n : Nat} (h1 : 1 ≤ n) (h2 : n ≤ 8) : clampN (n : Int) = n := by
  unfold clampN
  rw [if_neg (by omega), if_neg (by omega)]
  omega
theorem saves_walk (W0 : World) (n0 : Int) (at_ : Int) (a2 : Option Addr) (c2 : Nat) (ls : List (Option Addr × Nat × List UInt8)) (hm : ls.length ≤ 9223372036854775807)
    (hn0 : -9223372036854775808 ≤ n0 ∧ n0 ≤ 9223372036854775807) (hat : -9223372036854775808 ≤ at_ ∧ at_ ≤ 9223372036854775807)
    (r2 : ∀ L, Rd W0 L a2 (ls.map fun e => .slice e.1 e.2.2.length e.2.1)) (hls : ∀ e ∈ ls, e.2.2.length ≤ e.2.1 ∧ ∀ L, Rd W0 L e.1 (bytesV e.2.2)) :
    FnS Try.prog W0 6 #[.int .i64 n0, .int .i64 at_, .slice a2 ls.length c2] [] (fun e _ => e = .returned (.bool true)) := by
  obtain ⟨N, hN, hN1, hN8⟩ : ∃ N : Nat, (N : Int) = max 1 (min n0 8) ∧ 1 ≤ N ∧ N ≤ 8 := ⟨(max 1 (min n0 8)).toNat, by omega, by omega, by omega⟩
  refine FnS.of (args := [.int .i64 n0, .int .i64 at_, .slice a2 ls.length c2]) Try.func6 rfl rfl ?_
  refine C.seq ?_
  refine C.region ?_
  refine G.assignB rfl trivial rfl rfl rfl ?_
  refine G.nil ?_
  refine C.seq ?_
  refine C.region ?_
  refine G.call E10 rfl rfl trivial rfl rfl (beganS_spec W0 _) rfl ?_
  rintro e L2 ⟨rfl, rfl⟩
  refine G.assignB rfl trivial rfl rfl rfl ?_
  refine G.nil ?_
  refine C.seq ?_
  refine C.seq ?_
  refine C.region ?_
  refine G.moveB rfl trivial rfl rfl rfl ?_
  first | refine G.notD rfl trivial rfl rfl rfl ?_ | refine G.not rfl trivial rfl rfl rfl ?_
  refine G.nil ?_
  refine C.condF rfl ?_
  refine C.skip ?_
  refine C.seq ?_
  refine C.region ?_
  refine G.moveI rfl trivial rfl rfl rfl ?_
  refine G.min2 rfl trivial rfl rfl rfl rfl ?_
  refine G.max2 rfl trivial rfl rfl rfl rfl ?_
  refine G.fix (d := 25) (v := .int .i64 (N : Int)) (by show Value.int .i64 _ = _; congr 1; omega) ?_
  refine G.assignI rfl trivial rfl rfl rfl ?_
  refine G.nil ?_
  refine C.seq ?_
  refine C.region ?_
  refine G.moveI rfl trivial rfl rfl rfl ?_
  refine G.call E7 rfl rfl trivial rfl rfl (new_spec W0 _ N) rfl ?_
  rintro e L2 ⟨bd, bl, rfl, rfl⟩
  rw [clampN_id hN1 hN8]
  have hok0 : (newDv N).ok := newDv_ok (by omega)
  have hlive0 := new_live N
  have hlen0 : (newDv N).l.length = N := by simp only [newDv, List.length_replicate]
  generalize newDv N = d0 at *
  refine G.assignP rfl trivial rfl rfl rfl ?_
  refine G.nil ?_
  refine C.seq ?_
  refine C.region ?_
  refine G.moveP rfl trivial rfl rfl rfl ?_
  refine G.moveI rfl trivial rfl rfl rfl ?_
  by_cases hin : 0 ≤ at_ ∧ at_ < (N : Int) - 1
  ·
    obtain ⟨p0, rfl⟩ : ∃ p : Nat, at_ = p := ⟨at_.toNat, by omega⟩
    refine G.call E8 rfl rfl trivial rfl rfl (make_ok W0 [] _ bd bl d0 hok0 hlive0 p0 (by omega) none 0 [] (by decide) (fun _ => Rd.nil)) rfl ?_
    rintro e L2 ⟨bs, sg, hsg, rfl, rfl⟩
    have hok1 := mkD_ok hok0 hlive0 p0 (b := []) (by decide)
    have hlive1 := mkD_live hlive0 p0 []
    have hlen1 : (mkD d0 p0 []).l.length = N := by rw [mkD_length]; exact hlen0
    have hcl1 : (mkD d0 p0 []).clean := flush_clean _
    have hs1 := Slots.made d0 hok0 hlive0 p0 (by omega) (b := []) (by decide)
    generalize mkD d0 p0 [] = d1 at *
    refine G.moveU rfl trivial rfl rfl rfl ?_
    refine G.extractL rfl trivial rfl rfl rfl rfl ?_
    refine G.extractL rfl trivial rfl rfl rfl rfl ?_
    refine G.assignP rfl trivial rfl rfl rfl ?_
    refine G.assignI rfl trivial rfl rfl rfl ?_
    refine G.nil ?_
    refine C.seq ?_
    refine C.seq ?_
    refine C.region ?_
    refine G.moveI rfl trivial rfl rfl rfl ?_
    refine G.bin rfl trivial rfl rfl rfl rfl rfl ?_
    refine G.moveB rfl trivial rfl rfl rfl ?_
    refine G.no (t := 36) rfl (by omega) ?_
    refine G.moveI rfl ⟨_, rfl, rfl, rfl⟩ rfl rfl rfl ?_
    refine G.moveI rfl ⟨_, rfl, rfl, rfl⟩ rfl rfl rfl ?_
    refine G.sub rfl ⟨_, rfl, rfl, rfl⟩ rfl rfl rfl rfl (by omega) ?_
    refine G.bin rfl ⟨_, rfl, rfl, rfl⟩ rfl rfl rfl rfl rfl ?_
    first | refine G.pickT rfl trivial rfl rfl rfl rfl ?_ | refine G.pickF rfl trivial rfl rfl rfl rfl ?_
    refine G.nil ?_
    refine C.no rfl (by omega) ?_
    refine C.skip ?_
    refine C.seq ?_
    refine C.seq ?_
    refine C.region ?_
    refine G.moveI rfl trivial rfl rfl rfl ?_
    refine G.bin rfl trivial rfl rfl rfl rfl rfl ?_
    refine G.nil ?_
    refine C.no rfl (by simp) ?_
    refine C.skip ?_
    refine C.seq ?_
    refine C.region ?_
    refine G.assignT rfl trivial rfl rfl rfl ?_
    refine G.assignI rfl trivial rfl rfl rfl ?_
    refine G.nil ?_
    refine C.seq ?_
    refine C.seq ?_
    refine C.region ?_
    refine G.assignI rfl trivial rfl rfl rfl ?_
    refine G.nil ?_
    refine C.block ?_
    refine C.loop (fun m F D' L' => ∃ (i : Nat) (d : Dv) (p : Sp) (t : Nat) (s1 : Seg), i ≤ ls.length ∧ i ≤ 12 ∧ t ≤ i + 1 ∧ d.ok ∧ d.live ∧ d.l.length = N ∧ d.clean ∧ Slots d p t ∧ p.at_ = p0 ∧ SpIs bs bd p s1 ∧ m = ls.length - i ∧ F 13 = .int .i64 i ∧ F 12 = .int .i64 (t : Int) ∧ F 11 = .string (strB p.text) ∧ F 9 = ptr bs ∧ F 8 = ptr bd ∧ F 1 = .int .i64 (p0 : Int) ∧ F 2 = .slice a2 ls.length c2 ∧ D' = [] ∧ s1 :: devSeg bd bl d :: [] = L') ⟨_, ⟨0, d1, _, 1, sg, by omega, by omega, by omega, hok1, hlive1, hlen1, hcl1, hs1, rfl, hsg, rfl, rfl, rfl, rfl, rfl, rfl, rfl, rfl, rfl, rfl⟩⟩ ?_
    rintro m F D' L' ⟨i, d, p, t, s1, hi, hi12, ht, hok, hlive, hlen, hcl, hs, hpa, hsp, rfl, h13, h12, h11, h9, h8, h1', h2', rfl, rfl⟩
    refine C.fix (d := 13) h13 ?_
    refine C.fix (d := 12) h12 ?_
    refine C.fix (d := 11) h11 ?_
    refine C.fix (d := 9) h9 ?_
    refine C.fix (d := 8) h8 ?_
    refine C.fix (d := 1) h1' ?_
    refine C.fix (d := 2) h2' ?_
    refine C.seq ?_
    refine C.seq ?_
    refine C.region ?_
    refine G.moveI rfl trivial rfl rfl rfl ?_
    refine G.moveS rfl trivial rfl rfl rfl ?_
    refine G.lenSlice rfl trivial rfl rfl Try.underlying43 rfl ?_
    refine G.bin rfl trivial rfl rfl rfl rfl rfl ?_
    refine G.moveB rfl trivial rfl rfl rfl ?_
    refine G.fork (t := 54) _ rfl ?_ ?_
    · intro hg54
      refine G.moveI rfl ⟨_, rfl, rfl, rfl⟩ rfl rfl rfl ?_
      refine G.bin rfl ⟨_, rfl, rfl, rfl⟩ rfl rfl rfl rfl rfl ?_
      first | refine G.pickT rfl trivial rfl rfl rfl rfl ?_ | refine G.pickF rfl trivial rfl rfl rfl rfl ?_
      refine G.nil ?_
      refine C.cond _ rfl ?_ ?_
      · intro hc3
        have hlt : i < ls.length := by omega
        obtain ⟨p2, o2, rfl, _⟩ := (r2 []).some_ (by rw [List.length_map]; omega)
        obtain ⟨hx1, hx2⟩ := hls _ (List.getElem_mem hlt)
        have hpl := hs.len
        refine C.skip ?_
        refine C.seq ?_
        refine C.block ?_
        refine C.seq ?_
        refine C.region ?_
        refine G.moveS rfl trivial rfl rfl rfl ?_
        refine G.moveI rfl trivial rfl rfl rfl ?_
        refine G.indexAddr rfl trivial rfl rfl Try.underlying43 I28 rfl rfl (by omega) ?_
        refine G.load (v := .slice ls[i].1 ls[i].2.2.length ls[i].2.1) rfl trivial rfl rfl Try.underlying28 rfl rfl (fun w hm => by have h := Rd.cell_at (j := i) (r2 _) (by rw [List.length_map]; exact hlt) w hm; rw [List.getElem?_map, List.getElem?_eq_getElem hlt] at h; simpa using h) ?_
        generalize ls[i] = le at *
        obtain ⟨ax, cx, xs0⟩ := le
        simp only at hx1 hx2
        refine G.call E17 rfl rfl trivial rfl rfl (short_u8 W0 _ ax cx xs0 45 rfl hx1) rfl ?_
        rintro e L2 ⟨rfl, rfl⟩
        have hb45 : (xs0.take 45).length ≤ 45 := by rw [List.length_take]; omega
        have hqb : ∀ L, Rd W0 L ax (bytesV (xs0.take 45)) := fun L => by rw [← bytesV_take]; exact (hx2 L).take
        generalize xs0.take 45 = b at *
        refine G.assignS rfl trivial rfl rfl rfl ?_
        refine G.nil ?_
        refine C.seq ?_
        refine C.region ?_
        refine G.moveP rfl trivial rfl rfl rfl ?_
        refine G.moveS rfl trivial rfl rfl rfl ?_
        by_cases hb40 : b.length ≤ 40
        ·
          refine G.call E11 rfl rfl trivial rfl rfl (save_live W0 _ bs bd bl d hok hlive p s1 hsp t hs (by omega) (by omega) ax _ cx b rfl hb40 (fun _ => hqb _)) rfl ?_
          rintro e L2 ⟨s2, rfl, hsp2, rfl⟩
          have hs2 := hs.saved hok (by omega) hb40
          have hok2 := sav_ok hok hlive p t hb40
          have hlive2 := sav_live hlive p t b
          have hlen2 : (sav d p t b).l.length = N := by rw [sav_length]; exact hlen
          have hcl2 : (sav d p t b).clean := flush_clean _
          have hpa2 : (nextP p t b).at_ = p0 := hpa
          have hpt2 : (nextP p t b).text = b := rfl
          have hpn2 : (nextP p t b).turn = ((t + 1 : Nat) : Int) := rfl
          generalize sav d p t b = e at *
          generalize nextP p t b = q at *
          obtain ⟨tq, htq⟩ : ∃ k, k = t + 1 := ⟨_, rfl⟩
          rw [← htq] at hs2 hpn2
          refine G.assignI rfl trivial rfl rfl rfl ?_
          refine G.nil ?_
          refine C.seq ?_
          refine C.seq ?_
          refine C.region ?_
          refine G.moveI rfl trivial rfl rfl rfl ?_
          refine G.bin rfl trivial rfl rfl rfl rfl rfl ?_
          refine G.yes (t := 69) rfl rfl ?_
          refine G.moveS rfl trivial rfl rfl rfl ?_
          refine G.lenSlice rfl trivial rfl rfl Try.underlying28 rfl ?_
          refine G.bin rfl trivial rfl rfl rfl rfl rfl ?_
          refine G.yes (t := 72) rfl (by omega) ?_
          refine G.boolNe rfl trivial rfl rfl Try.underlying4 rfl rfl ?_
          refine G.moveB rfl trivial rfl rfl rfl ?_
          refine G.moveI rfl ⟨_, rfl, rfl, rfl⟩ rfl rfl rfl ?_
          refine G.bin rfl ⟨_, rfl, rfl, rfl⟩ rfl rfl rfl rfl rfl ?_
          refine G.no (t := 76) rfl (by decide) ?_
          refine G.moveB rfl ⟨_, rfl, rfl, rfl⟩ rfl rfl rfl ?_
          refine G.skip rfl rfl rfl rfl rfl rfl ?_
          refine G.skip rfl rfl rfl rfl rfl rfl ?_
          first | refine G.pickT rfl ⟨_, rfl, rfl, rfl⟩ rfl rfl rfl rfl ?_ | refine G.pickF rfl ⟨_, rfl, rfl, rfl⟩ rfl rfl rfl rfl ?_
          first | refine G.pickT rfl trivial rfl rfl rfl rfl ?_ | refine G.pickF rfl trivial rfl rfl rfl rfl ?_
          refine G.nil ?_
          refine C.condF rfl ?_
          refine C.skip ?_
          refine C.seq ?_
          refine C.seq ?_
          refine C.region ?_
          refine G.moveI rfl trivial rfl rfl rfl ?_
          refine G.bin rfl trivial rfl rfl rfl rfl rfl ?_
          refine G.nil ?_
          refine C.yes rfl (by simp) ?_
          refine C.seq ?_
          refine C.region ?_
          refine G.moveS rfl trivial rfl rfl rfl ?_
          refine G.bytesStr b rfl trivial rfl rfl Try.underlying28 Try.underlying5 Try.underlying9 rfl rfl (hqb _) ?_
          rw [← hpt2]
          refine G.assignT rfl trivial rfl rfl rfl ?_
          refine G.nil ?_
          refine C.region ?_
          refine G.moveI rfl trivial rfl rfl rfl ?_
          refine G.add rfl trivial rfl rfl rfl rfl (by omega) ?_
          refine G.fix (d := 87) (v := .int .i64 (tq : Int)) (by show Value.int .i64 _ = _; rw [htq]; congr 1) ?_
          refine G.assignI rfl trivial rfl rfl rfl ?_
          refine G.nil ?_
          refine C.seq ?_
          refine C.region ?_
          refine G.moveP rfl trivial rfl rfl rfl ?_
          refine G.moveI rfl trivial rfl rfl rfl ?_
          refine G.call E9 rfl rfl trivial rfl rfl (open_slots W0 [_] _ bd bl e hok2 q tq hs2 (by omega) (by omega) (by rw [hpa2])) rfl ?_
          rintro e L2 ⟨bu, su, hsu, rfl, rfl⟩
          refine G.moveU rfl trivial rfl rfl rfl ?_
          refine G.extractL rfl trivial rfl rfl rfl rfl ?_
          refine G.extractL rfl trivial rfl rfl rfl rfl ?_
          refine G.assignP rfl trivial rfl rfl rfl ?_
          refine G.assignI rfl trivial rfl rfl rfl ?_
          refine G.nil ?_
          refine C.seq ?_
          refine C.region ?_
          refine G.moveP rfl trivial rfl rfl rfl ?_
          refine G.call E15 rfl rfl trivial rfl rfl (crash_spec W0 [_, _] _ bd bl e hok2 (by omega) none 0 [] (Nat.le_refl _) (fun _ => Rd.nil)) rfl ?_
          rintro e L2 ⟨bc, bcl, rfl, rfl⟩
          have hsc := hs2.crash hcl2 []
          have hokc := crash_ok hok2 []
          have hlenc : (e.crash []).l.length = N := by rw [crash_len]; exact hlen2
          generalize e.crash [] = ec at *
          refine G.moveI rfl trivial rfl rfl rfl ?_
          refine G.call E9 rfl rfl trivial rfl rfl (open_slots W0 [] _ bc bcl ec hokc q tq hsc (by omega) (by omega) (by rw [hpa2])) rfl ?_
          rintro e L2 ⟨bv, sv, hsv, rfl, rfl⟩
          have hql := hs2.len
          refine G.moveU rfl trivial rfl rfl rfl ?_
          refine G.extractL rfl trivial rfl rfl rfl rfl ?_
          refine G.extractL rfl trivial rfl rfl rfl rfl ?_
          refine G.assignP rfl trivial rfl rfl rfl ?_
          refine G.assignI rfl trivial rfl rfl rfl ?_
          refine G.nil ?_
          refine C.seq ?_
          refine C.region ?_
          refine G.moveI rfl trivial rfl rfl rfl ?_
          refine G.bin rfl trivial rfl rfl rfl rfl rfl ?_
          refine G.no (t := 102) rfl (by simp) ?_
          refine G.moveB rfl trivial rfl rfl rfl ?_
          refine G.moveI rfl ⟨_, rfl, rfl, rfl⟩ rfl rfl rfl ?_
          refine G.bin rfl ⟨_, rfl, rfl, rfl⟩ rfl rfl rfl rfl rfl ?_
          refine G.no (t := 105) rfl (by simp) ?_
          first | refine G.pickT rfl trivial rfl rfl rfl rfl ?_ | refine G.pickF rfl trivial rfl rfl rfl rfl ?_
          refine G.moveB rfl trivial rfl rfl rfl ?_
          refine G.moveP rfl ⟨_, rfl, rfl, rfl⟩ rfl rfl rfl ?_
          refine G.call E12 rfl rfl ⟨_, rfl, rfl, rfl⟩ rfl rfl (text_spec W0 [_, _] _ bu bd q su hsu (by omega)) rfl ?_
          rintro e L2 ⟨v109, s109, hv109, rfl, rfl⟩
          obtain ⟨a109, c109, rfl, hr109⟩ := hv109.form
          refine G.bytesStr q.text rfl ⟨_, rfl, rfl, rfl⟩ rfl rfl Try.underlying28 Try.underlying5 Try.underlying9 rfl rfl (hr109 _ _) ?_
          refine G.moveT rfl ⟨_, rfl, rfl, rfl⟩ rfl rfl rfl ?_
          refine G.strNe rfl ⟨_, rfl, rfl, rfl⟩ rfl rfl  rfl rfl ?_
          refine G.no (t := 112) rfl (by simp) ?_
          first | refine G.pickT rfl trivial rfl rfl rfl rfl ?_ | refine G.pickF rfl trivial rfl rfl rfl rfl ?_
          refine G.moveB rfl trivial rfl rfl rfl ?_
          refine G.moveP rfl ⟨_, rfl, rfl, rfl⟩ rfl rfl rfl ?_
          refine G.call E13 rfl rfl ⟨_, rfl, rfl, rfl⟩ rfl rfl (turn_spec W0 [_, _, _] _ bu bd q su hsu) rfl ?_
          rintro e L2 ⟨rfl, rfl⟩
          refine G.moveI rfl ⟨_, rfl, rfl, rfl⟩ rfl rfl rfl ?_
          refine G.bin rfl ⟨_, rfl, rfl, rfl⟩ rfl rfl rfl rfl rfl ?_
          refine G.no (t := 118) rfl (fun h => h (by rw [hpn2])) ?_
          first | refine G.pickT rfl trivial rfl rfl rfl rfl ?_ | refine G.pickF rfl trivial rfl rfl rfl rfl ?_
          refine G.moveB rfl trivial rfl rfl rfl ?_
          refine G.moveP rfl ⟨_, rfl, rfl, rfl⟩ rfl rfl rfl ?_
          refine G.call E12 rfl rfl ⟨_, rfl, rfl, rfl⟩ rfl rfl (text_spec W0 [_] _ bv bc q sv hsv (by omega)) rfl ?_
          rintro e L2 ⟨v122, s122, hv122, rfl, rfl⟩
          obtain ⟨a122, c122, rfl, hr122⟩ := hv122.form
          refine G.bytesStr q.text rfl ⟨_, rfl, rfl, rfl⟩ rfl rfl Try.underlying28 Try.underlying5 Try.underlying9 rfl rfl (hr122 _ _) ?_
          refine G.moveT rfl ⟨_, rfl, rfl, rfl⟩ rfl rfl rfl ?_
          refine G.strNe rfl ⟨_, rfl, rfl, rfl⟩ rfl rfl  rfl rfl ?_
          refine G.no (t := 125) rfl (by simp) ?_
          first | refine G.pickT rfl trivial rfl rfl rfl rfl ?_ | refine G.pickF rfl trivial rfl rfl rfl rfl ?_
          refine G.moveB rfl trivial rfl rfl rfl ?_
          refine G.moveP rfl ⟨_, rfl, rfl, rfl⟩ rfl rfl rfl ?_
          refine G.call E12 rfl rfl ⟨_, rfl, rfl, rfl⟩ rfl rfl (text_spec W0 [_, _, _, _, _] _ bs bd q s2 hsp2 (by omega)) rfl ?_
          rintro e L2 ⟨v129, s129, hv129, rfl, rfl⟩
          obtain ⟨a129, c129, rfl, hr129⟩ := hv129.form
          refine G.bytesStr q.text rfl ⟨_, rfl, rfl, rfl⟩ rfl rfl Try.underlying28 Try.underlying5 Try.underlying9 rfl rfl (hr129 _ _) ?_
          refine G.moveT rfl ⟨_, rfl, rfl, rfl⟩ rfl rfl rfl ?_
          refine G.strNe rfl ⟨_, rfl, rfl, rfl⟩ rfl rfl  rfl rfl ?_
          refine G.no (t := 132) rfl (by simp) ?_
          first | refine G.pickT rfl trivial rfl rfl rfl rfl ?_ | refine G.pickF rfl trivial rfl rfl rfl rfl ?_
          refine G.moveB rfl trivial rfl rfl rfl ?_
          refine G.moveP rfl ⟨_, rfl, rfl, rfl⟩ rfl rfl rfl ?_
          refine G.call E13 rfl rfl ⟨_, rfl, rfl, rfl⟩ rfl rfl (turn_spec W0 [_, _, _, _, _, _] _ bs bd q s2 hsp2) rfl ?_
          rintro e L2 ⟨rfl, rfl⟩
          refine G.moveI rfl ⟨_, rfl, rfl, rfl⟩ rfl rfl rfl ?_
          refine G.bin rfl ⟨_, rfl, rfl, rfl⟩ rfl rfl rfl rfl rfl ?_
          refine G.no (t := 138) rfl (fun h => h (by rw [hpn2])) ?_
          first | refine G.pickT rfl trivial rfl rfl rfl rfl ?_ | refine G.pickF rfl trivial rfl rfl rfl rfl ?_
          refine G.nil ?_
          refine C.condF rfl ?_
          refine C.skip ?_
          refine C.region ?_
          refine G.moveI rfl trivial rfl rfl rfl ?_
          refine G.add rfl trivial rfl rfl rfl rfl (by omega) ?_
          refine G.assignI rfl trivial rfl rfl rfl ?_
          refine G.less (fun _ h => h.tail.tail.tail.tail.tail.tail) ?_
          refine G.nil ?_
          exact ⟨ls.length - (i + 1), by omega, i + 1, e, q, tq, s2, by omega, by omega, by omega, hok2, hlive2, hlen2, hcl2, hs2, hpa2, hsp2, rfl, rfl, rfl, rfl, rfl, rfl, rfl, rfl, rfl, rfl⟩
        ·
          refine G.call E11 rfl rfl trivial rfl rfl (save_form W0 bs p s1 _ ax _ cx (by omega)) rfl ?_
          rintro e L2 ⟨rfl, rfl⟩
          obtain ⟨s2, hs2e⟩ : ∃ s, s = s1 := ⟨_, rfl⟩
          obtain ⟨e, hee⟩ : ∃ e, e = d := ⟨_, rfl⟩
          obtain ⟨q, hqq⟩ : ∃ q, q = p := ⟨_, rfl⟩
          obtain ⟨tq, htq⟩ : ∃ k, k = t := ⟨_, rfl⟩
          have hs2 := hs
          have hok2 := hok
          have hlive2 := hlive
          have hlen2 := hlen
          have hcl2 := hcl
          have hpa2 := hpa
          have hsp2 := hsp
          rw [← hs2e, ← hqq] at hsp2
          rw [← hee, ← hqq, ← htq] at hs2
          rw [← hee] at hok2 hlive2 hlen2 hcl2
          rw [← hqq] at hpa2
          rw [← hs2e, ← hee]
          have hpn2 := hs2.turn
          refine G.assignI rfl trivial rfl rfl rfl ?_
          refine G.nil ?_
          refine C.seq ?_
          refine C.seq ?_
          refine C.region ?_
          refine G.moveI rfl trivial rfl rfl rfl ?_
          refine G.bin rfl trivial rfl rfl rfl rfl rfl ?_
          refine G.no (t := 69) rfl (by decide) ?_
          refine G.moveS rfl trivial rfl rfl rfl ?_
          refine G.lenSlice rfl trivial rfl rfl Try.underlying28 rfl ?_
          refine G.bin rfl trivial rfl rfl rfl rfl rfl ?_
          refine G.no (t := 72) rfl (by omega) ?_
          refine G.boolNe rfl trivial rfl rfl Try.underlying4 rfl rfl ?_
          refine G.moveB rfl trivial rfl rfl rfl ?_
          refine G.moveI rfl ⟨_, rfl, rfl, rfl⟩ rfl rfl rfl ?_
          refine G.bin rfl ⟨_, rfl, rfl, rfl⟩ rfl rfl rfl rfl rfl ?_
          refine G.yes (t := 76) rfl (by decide) ?_
          refine G.moveB rfl ⟨_, rfl, rfl, rfl⟩ rfl rfl rfl ?_
          refine G.moveI rfl ⟨_, rfl, rfl, rfl⟩ rfl rfl rfl ?_
          refine G.bin rfl ⟨_, rfl, rfl, rfl⟩ rfl rfl rfl rfl rfl ?_
          refine G.no (t := 79) rfl (by decide) ?_
          first | refine G.pickT rfl ⟨_, rfl, rfl, rfl⟩ rfl rfl rfl rfl ?_ | refine G.pickF rfl ⟨_, rfl, rfl, rfl⟩ rfl rfl rfl rfl ?_
          first | refine G.pickT rfl trivial rfl rfl rfl rfl ?_ | refine G.pickF rfl trivial rfl rfl rfl rfl ?_
          refine G.nil ?_
          refine C.condF rfl ?_
          refine C.skip ?_
          refine C.seq ?_
          refine C.seq ?_
          refine C.region ?_
          refine G.moveI rfl trivial rfl rfl rfl ?_
          refine G.bin rfl trivial rfl rfl rfl rfl rfl ?_
          refine G.nil ?_
          refine C.no rfl (by simp) ?_
          refine C.skip ?_
          refine C.seq ?_
          refine C.region ?_
          refine G.fix (d := 11) (v := .string (strB q.text)) (by show Value.string (strB p.text) = _; rw [hqq]) ?_
          refine G.fix (d := 12) (v := .int .i64 (tq : Int)) (by show Value.int .i64 (t : Int) = _; rw [htq]) ?_
          refine G.moveP rfl trivial rfl rfl rfl ?_
          refine G.moveI rfl trivial rfl rfl rfl ?_
          refine G.call E9 rfl rfl trivial rfl rfl (open_slots W0 [_] _ bd bl e hok2 q tq hs2 (by omega) (by omega) (by rw [hpa2])) rfl ?_
          rintro e L2 ⟨bu, su, hsu, rfl, rfl⟩
          refine G.moveU rfl trivial rfl rfl rfl ?_
          refine G.extractL rfl trivial rfl rfl rfl rfl ?_
          refine G.extractL rfl trivial rfl rfl rfl rfl ?_
          refine G.assignP rfl trivial rfl rfl rfl ?_
          refine G.assignI rfl trivial rfl rfl rfl ?_
          refine G.nil ?_
          refine C.seq ?_
          refine C.region ?_
          refine G.moveP rfl trivial rfl rfl rfl ?_
          refine G.call E15 rfl rfl trivial rfl rfl (crash_spec W0 [_, _] _ bd bl e hok2 (by omega) none 0 [] (Nat.le_refl _) (fun _ => Rd.nil)) rfl ?_
          rintro e L2 ⟨bc, bcl, rfl, rfl⟩
          have hsc := hs2.crash hcl2 []
          have hokc := crash_ok hok2 []
          have hlenc : (e.crash []).l.length = N := by rw [crash_len]; exact hlen2
          generalize e.crash [] = ec at *
          refine G.moveI rfl trivial rfl rfl rfl ?_
          refine G.call E9 rfl rfl trivial rfl rfl (open_slots W0 [] _ bc bcl ec hokc q tq hsc (by omega) (by omega) (by rw [hpa2])) rfl ?_
          rintro e L2 ⟨bv, sv, hsv, rfl, rfl⟩
          have hql := hs2.len
          refine G.moveU rfl trivial rfl rfl rfl ?_
          refine G.extractL rfl trivial rfl rfl rfl rfl ?_
          refine G.extractL rfl trivial rfl rfl rfl rfl ?_
          refine G.assignP rfl trivial rfl rfl rfl ?_
          refine G.assignI rfl trivial rfl rfl rfl ?_
          refine G.nil ?_
          refine C.seq ?_
          refine C.region ?_
          refine G.moveI rfl trivial rfl rfl rfl ?_
          refine G.bin rfl trivial rfl rfl rfl rfl rfl ?_
          refine G.no (t := 102) rfl (by simp) ?_
          refine G.moveB rfl trivial rfl rfl rfl ?_
          refine G.moveI rfl ⟨_, rfl, rfl, rfl⟩ rfl rfl rfl ?_
          refine G.bin rfl ⟨_, rfl, rfl, rfl⟩ rfl rfl rfl rfl rfl ?_
          refine G.no (t := 105) rfl (by simp) ?_
          first | refine G.pickT rfl trivial rfl rfl rfl rfl ?_ | refine G.pickF rfl trivial rfl rfl rfl rfl ?_
          refine G.moveB rfl trivial rfl rfl rfl ?_
          refine G.moveP rfl ⟨_, rfl, rfl, rfl⟩ rfl rfl rfl ?_
          refine G.call E12 rfl rfl ⟨_, rfl, rfl, rfl⟩ rfl rfl (text_spec W0 [_, _] _ bu bd q su hsu (by omega)) rfl ?_
          rintro e L2 ⟨v109, s109, hv109, rfl, rfl⟩
          obtain ⟨a109, c109, rfl, hr109⟩ := hv109.form
          refine G.bytesStr q.text rfl ⟨_, rfl, rfl, rfl⟩ rfl rfl Try.underlying28 Try.underlying5 Try.underlying9 rfl rfl (hr109 _ _) ?_
          refine G.moveT rfl ⟨_, rfl, rfl, rfl⟩ rfl rfl rfl ?_
          refine G.strNe rfl ⟨_, rfl, rfl, rfl⟩ rfl rfl  rfl rfl ?_
          refine G.no (t := 112) rfl (by simp) ?_
          first | refine G.pickT rfl trivial rfl rfl rfl rfl ?_ | refine G.pickF rfl trivial rfl rfl rfl rfl ?_
          refine G.moveB rfl trivial rfl rfl rfl ?_
          refine G.moveP rfl ⟨_, rfl, rfl, rfl⟩ rfl rfl rfl ?_
          refine G.call E13 rfl rfl ⟨_, rfl, rfl, rfl⟩ rfl rfl (turn_spec W0 [_, _, _] _ bu bd q su hsu) rfl ?_
          rintro e L2 ⟨rfl, rfl⟩
          refine G.moveI rfl ⟨_, rfl, rfl, rfl⟩ rfl rfl rfl ?_
          refine G.bin rfl ⟨_, rfl, rfl, rfl⟩ rfl rfl rfl rfl rfl ?_
          refine G.no (t := 118) rfl (fun h => h (by rw [hpn2])) ?_
          first | refine G.pickT rfl trivial rfl rfl rfl rfl ?_ | refine G.pickF rfl trivial rfl rfl rfl rfl ?_
          refine G.moveB rfl trivial rfl rfl rfl ?_
          refine G.moveP rfl ⟨_, rfl, rfl, rfl⟩ rfl rfl rfl ?_
          refine G.call E12 rfl rfl ⟨_, rfl, rfl, rfl⟩ rfl rfl (text_spec W0 [_] _ bv bc q sv hsv (by omega)) rfl ?_
          rintro e L2 ⟨v122, s122, hv122, rfl, rfl⟩
          obtain ⟨a122, c122, rfl, hr122⟩ := hv122.form
          refine G.bytesStr q.text rfl ⟨_, rfl, rfl, rfl⟩ rfl rfl Try.underlying28 Try.underlying5 Try.underlying9 rfl rfl (hr122 _ _) ?_
          refine G.moveT rfl ⟨_, rfl, rfl, rfl⟩ rfl rfl rfl ?_
          refine G.strNe rfl ⟨_, rfl, rfl, rfl⟩ rfl rfl  rfl rfl ?_
          refine G.no (t := 125) rfl (by simp) ?_
          first | refine G.pickT rfl trivial rfl rfl rfl rfl ?_ | refine G.pickF rfl trivial rfl rfl rfl rfl ?_
          refine G.moveB rfl trivial rfl rfl rfl ?_
          refine G.moveP rfl ⟨_, rfl, rfl, rfl⟩ rfl rfl rfl ?_
          refine G.call E12 rfl rfl ⟨_, rfl, rfl, rfl⟩ rfl rfl (text_spec W0 [_, _, _, _, _] _ bs bd q s2 hsp2 (by omega)) rfl ?_
          rintro e L2 ⟨v129, s129, hv129, rfl, rfl⟩
          obtain ⟨a129, c129, rfl, hr129⟩ := hv129.form
          refine G.bytesStr q.text rfl ⟨_, rfl, rfl, rfl⟩ rfl rfl Try.underlying28 Try.underlying5 Try.underlying9 rfl rfl (hr129 _ _) ?_
          refine G.moveT rfl ⟨_, rfl, rfl, rfl⟩ rfl rfl rfl ?_
          refine G.strNe rfl ⟨_, rfl, rfl, rfl⟩ rfl rfl  rfl rfl ?_
          refine G.no (t := 132) rfl (by simp) ?_
          first | refine G.pickT rfl trivial rfl rfl rfl rfl ?_ | refine G.pickF rfl trivial rfl rfl rfl rfl ?_
          refine G.moveB rfl trivial rfl rfl rfl ?_
          refine G.moveP rfl ⟨_, rfl, rfl, rfl⟩ rfl rfl rfl ?_
          refine G.call E13 rfl rfl ⟨_, rfl, rfl, rfl⟩ rfl rfl (turn_spec W0 [_, _, _, _, _, _] _ bs bd q s2 hsp2) rfl ?_
          rintro e L2 ⟨rfl, rfl⟩
          refine G.moveI rfl ⟨_, rfl, rfl, rfl⟩ rfl rfl rfl ?_
          refine G.bin rfl ⟨_, rfl, rfl, rfl⟩ rfl rfl rfl rfl rfl ?_
          refine G.no (t := 138) rfl (fun h => h (by rw [hpn2])) ?_
          first | refine G.pickT rfl trivial rfl rfl rfl rfl ?_ | refine G.pickF rfl trivial rfl rfl rfl rfl ?_
          refine G.nil ?_
          refine C.condF rfl ?_
          refine C.skip ?_
          refine C.region ?_
          refine G.moveI rfl trivial rfl rfl rfl ?_
          refine G.add rfl trivial rfl rfl rfl rfl (by omega) ?_
          refine G.assignI rfl trivial rfl rfl rfl ?_
          refine G.less (fun _ h => h.tail.tail.tail.tail.tail.tail) ?_
          refine G.nil ?_
          exact ⟨ls.length - (i + 1), by omega, i + 1, e, q, tq, s2, by omega, by omega, by omega, hok2, hlive2, hlen2, hcl2, hs2, hpa2, hsp2, rfl, rfl, rfl, rfl, rfl, rfl, rfl, rfl, rfl, rfl⟩
      · intro hc3
        refine C.exit ?_
        refine C.seq ?_
        refine C.region ?_
        refine G.moveP rfl trivial rfl rfl rfl ?_
        refine G.call E19 rfl rfl trivial rfl rfl (loose_spec W0 [_] _ bd bl d hok) rfl ?_
        rintro e L2 ⟨v, sl, hvl, rfl, rfl⟩
        rw [looses_clean hcl] at hvl
        obtain ⟨al, cl, rfl, hrl⟩ := hvl.form
        refine G.lenSlice rfl trivial rfl rfl Try.underlying44 rfl ?_
        refine G.bin rfl trivial rfl rfl rfl rfl rfl ?_
        refine G.yes (t := 143) rfl rfl ?_
        refine G.assignB rfl trivial rfl rfl rfl ?_
        refine G.nil ?_
        refine C.ret ?_
        -- end x31Tg54Tc3F
        exact ⟨rfl, _, Res.of (rs := [.tmp 6]) rfl rfl, rfl⟩
    · intro hg54
      refine G.skip rfl rfl rfl rfl rfl rfl ?_
      refine G.skip rfl rfl rfl rfl rfl rfl ?_
      first | refine G.pickT rfl trivial rfl rfl rfl rfl ?_ | refine G.pickF rfl trivial rfl rfl rfl rfl ?_
      refine G.nil ?_
      refine C.condF rfl ?_
      refine C.exit ?_
      refine C.seq ?_
      refine C.region ?_
      refine G.moveP rfl trivial rfl rfl rfl ?_
      refine G.call E19 rfl rfl trivial rfl rfl (loose_spec W0 [_] _ bd bl d hok) rfl ?_
      rintro e L2 ⟨v, sl, hvl, rfl, rfl⟩
      rw [looses_clean hcl] at hvl
      obtain ⟨al, cl, rfl, hrl⟩ := hvl.form
      refine G.lenSlice rfl trivial rfl rfl Try.underlying44 rfl ?_
      refine G.bin rfl trivial rfl rfl rfl rfl rfl ?_
      refine G.yes (t := 143) rfl rfl ?_
      refine G.assignB rfl trivial rfl rfl rfl ?_
      refine G.nil ?_
      refine C.ret ?_
      -- end x31Tg54F
      exact ⟨rfl, _, Res.of (rs := [.tmp 6]) rfl rfl, rfl⟩
  ·
    refine G.call E8 rfl rfl trivial rfl rfl (make_range W0 [] _ bd bl d0 hok0 at_ (by rw [hlen0]; exact hin) none 0 0 (by decide)) rfl ?_
    rintro e L2 ⟨rfl, rfl⟩
    refine G.moveU rfl trivial rfl rfl rfl ?_
    refine G.extractL rfl trivial rfl rfl rfl rfl ?_
    refine G.extractL rfl trivial rfl rfl rfl rfl ?_
    refine G.assignP rfl trivial rfl rfl rfl ?_
    refine G.assignI rfl trivial rfl rfl rfl ?_
    refine G.nil ?_
    refine C.seq ?_
    refine C.seq ?_
    refine C.region ?_
    refine G.moveI rfl trivial rfl rfl rfl ?_
    refine G.bin rfl trivial rfl rfl rfl rfl rfl ?_
    refine G.moveB rfl trivial rfl rfl rfl ?_
    refine G.fork (t := 36) _ rfl ?_ ?_
    · intro hg36
      refine G.skip rfl rfl rfl rfl rfl rfl ?_
      refine G.skip rfl rfl rfl rfl rfl rfl ?_
      refine G.skip rfl rfl rfl rfl rfl rfl ?_
      refine G.skip rfl rfl rfl rfl rfl rfl ?_
      first | refine G.pickT rfl trivial rfl rfl rfl rfl ?_ | refine G.pickF rfl trivial rfl rfl rfl rfl ?_
      refine G.nil ?_
      refine C.condT rfl ?_
      refine C.seq ?_
      refine C.region ?_
      refine G.moveI rfl trivial rfl rfl rfl ?_
      refine G.bin rfl trivial rfl rfl rfl rfl rfl ?_
      refine G.yes (t := 43) rfl rfl ?_
      refine G.moveB rfl trivial rfl rfl rfl ?_
      refine G.moveP rfl ⟨_, rfl, rfl, rfl⟩ rfl rfl rfl ?_
      refine G.ptrEq rfl ⟨_, rfl, rfl, rfl⟩ rfl rfl Try.underlying22 rfl rfl ?_
      refine G.fix (d := 46) (v := .bool true) rfl ?_
      first | refine G.pickT rfl trivial rfl rfl rfl rfl ?_ | refine G.pickF rfl trivial rfl rfl rfl rfl ?_
      refine G.assignB rfl trivial rfl rfl rfl ?_
      refine G.nil ?_
      refine C.ret ?_
      -- end x31Fg36T
      exact ⟨rfl, _, Res.of (rs := [.tmp 6]) rfl rfl, rfl⟩
    · intro hg36
      refine G.moveI rfl ⟨_, rfl, rfl, rfl⟩ rfl rfl rfl ?_
      refine G.moveI rfl ⟨_, rfl, rfl, rfl⟩ rfl rfl rfl ?_
      refine G.sub rfl ⟨_, rfl, rfl, rfl⟩ rfl rfl rfl rfl (by omega) ?_
      refine G.bin rfl ⟨_, rfl, rfl, rfl⟩ rfl rfl rfl rfl rfl ?_
      first | refine G.pickT rfl trivial rfl rfl rfl rfl ?_ | refine G.pickF rfl trivial rfl rfl rfl rfl ?_
      refine G.nil ?_
      refine C.yes rfl (by omega) ?_
      refine C.seq ?_
      refine C.region ?_
      refine G.moveI rfl trivial rfl rfl rfl ?_
      refine G.bin rfl trivial rfl rfl rfl rfl rfl ?_
      refine G.yes (t := 43) rfl rfl ?_
      refine G.moveB rfl trivial rfl rfl rfl ?_
      refine G.moveP rfl ⟨_, rfl, rfl, rfl⟩ rfl rfl rfl ?_
      refine G.ptrEq rfl ⟨_, rfl, rfl, rfl⟩ rfl rfl Try.underlying22 rfl rfl ?_
      refine G.fix (d := 46) (v := .bool true) rfl ?_
      first | refine G.pickT rfl trivial rfl rfl rfl rfl ?_ | refine G.pickF rfl trivial rfl rfl rfl rfl ?_
      refine G.assignB rfl trivial rfl rfl rfl ?_
      refine G.nil ?_
      refine C.ret ?_
      -- end x31Fg36F
      exact ⟨rfl, _, Res.of (rs := [.tmp 6]) rfl rfl, rfl⟩
end Go.Proofs.Ytmfaoeeddafcfaa
