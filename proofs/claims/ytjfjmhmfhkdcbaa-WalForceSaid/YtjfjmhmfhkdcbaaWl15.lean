/-
  The laws of the log: places count all that was ever appended.
-/
import Derived.Test.YtjfjmhmfhkdcbaaWl14
namespace Go.Proofs.Ytjfjmhmfhkdcbaa
open Go Go.SL Go.RowKit

theorem size_one (z : Int) (k : Int) (hk : 0 < k) (hk2 : k ≤ 500) : ∃ N : Nat, 1 + ((z.tmod k) + k).tmod k = (N : Int) ∧ 1 ≤ N ∧ N ≤ 500 ∧ 0 < (z.tmod k) + k ∧ (z.tmod k) + k < 1000 ∧ 0 ≤ ((z.tmod k) + k).tmod k ∧ ((z.tmod k) + k).tmod k < 500 ∧ -500 < z.tmod k ∧ z.tmod k < 500 := by
  have h1 := Int.tmod_lt_of_pos z hk
  have h2 := Int.lt_tmod_of_pos z hk
  have h3 := Int.tmod_nonneg k (show 0 ≤ (z.tmod k) + k by omega)
  have h4 := Int.tmod_lt_of_pos ((z.tmod k) + k) hk
  exact ⟨(1 + ((z.tmod k) + k).tmod k).toNat, by omega, by omega, by omega, by omega, by omega, h3, by omega, by omega, by omega⟩
theorem places_walk (W0 : World) (a0 a1 a2 : Option Addr) (c0 c1 c2 : Nat) (zs : List Int) (cuts falls : List Bool) (hz : zs.length ≤ 9223372036854775807) (hcl : cuts.length ≤ 9223372036854775807) (hfl : falls.length ≤ 9223372036854775807)
    (r0 : ∀ L, Rd W0 L a0 (zs.map (Value.int .i64))) (r1 : ∀ L, Rd W0 L a1 (cuts.map Value.bool)) (r2 : ∀ L, Rd W0 L a2 (falls.map Value.bool)) :
    FnS Try.prog W0 5 #[.slice a0 zs.length c0, .slice a1 cuts.length c1, .slice a2 falls.length c2] [] (fun e _ => e = .returned (.bool true)) := by
  obtain ⟨hok0, hlv0, hln0⟩ := newW
  refine FnS.of (args := [.slice a0 zs.length c0, .slice a1 cuts.length c1, .slice a2 falls.length c2]) Try.func5 rfl rfl ?_
  refine C.seq ?_
  refine C.region ?_
  refine G.assignB rfl trivial rfl rfl rfl ?_
  refine G.nil ?_
  refine C.seq ?_
  refine C.region ?_
  refine G.call E9 rfl rfl trivial rfl rfl (beganW_spec W0 _) rfl ?_
  rintro e L2 ⟨rfl, rfl⟩
  refine G.assignB rfl trivial rfl rfl rfl ?_
  refine G.nil ?_
  refine C.seq ?_
  refine C.seq ?_
  refine C.region ?_
  refine G.moveB rfl trivial rfl rfl rfl ?_
  first | refine G.notD rfl trivial rfl rfl rfl ?_ | refine G.not rfl trivial rfl rfl rfl ?_
  refine G.fix (d := 21) (v := .bool false) rfl ?_
  refine G.nil ?_
  refine C.condF rfl ?_
  refine C.skip ?_
  refine C.seq ?_
  refine C.region ?_
  refine G.call E11 rfl rfl trivial rfl rfl (new_spec W0 _ 1410) rfl ?_
  rintro e L2 ⟨bd, bl, rfl, rfl⟩
  rw [show clampN 1410 = 1410 from rfl]
  generalize newDv 1410 = d0 at *
  refine G.assignP rfl trivial rfl rfl rfl ?_
  refine G.nil ?_
  refine C.seq ?_
  refine C.region ?_
  refine G.moveP rfl trivial rfl rfl rfl ?_
  refine G.call E10 rfl rfl trivial rfl rfl (wa_make W0 [] _ bd bl d0 hok0 hlv0 hln0) rfl ?_
  rintro e L2 ⟨bg, bs, sg, sp, d1, rfl, hw1, rfl⟩
  refine G.moveU rfl trivial rfl rfl rfl ?_
  refine G.extractL rfl trivial rfl rfl rfl rfl ?_
  refine G.extractL rfl trivial rfl rfl rfl rfl ?_
  refine G.assignP rfl trivial rfl rfl rfl ?_
  refine G.assignI rfl trivial rfl rfl rfl ?_
  refine G.nil ?_
  refine C.seq ?_
  refine C.seq ?_
  refine C.region ?_
  refine G.moveI rfl trivial rfl rfl rfl ?_
  refine G.bin rfl trivial rfl rfl rfl rfl rfl ?_
  refine G.nil ?_
  refine C.no rfl (by simp) ?_
  refine C.skip ?_
  refine C.seq ?_
  refine C.region ?_
  refine G.assignI rfl trivial rfl rfl rfl ?_
  refine G.nil ?_
  refine C.seq ?_
  refine C.seq ?_
  refine C.region ?_
  refine G.assignI rfl trivial rfl rfl rfl ?_
  refine G.nil ?_
  refine C.block ?_
  refine C.loop (fun m F D' L' => ∃ (i base T : Nat) (fs us : List (List UInt8)) (bg bs bd bl : Nat) (d : Dv) (sg sp : Seg), i ≤ zs.length ∧ i ≤ 20 ∧ base + size fs + size us ≤ 504 * i ∧ base ≤ 504 * i ∧ T ≤ 3 * i + 1 ∧ WA bg bs bd base fs us T d sg sp ∧ m = zs.length - i ∧ F 12 = .int .i64 (i : Int) ∧ F 11 = .int .i64 ((base + size fs + size us : Nat) : Int) ∧ F 9 = ptr bg ∧ F 8 = ptr bd ∧ F 0 = .slice a0 zs.length c0 ∧ F 1 = .slice a1 cuts.length c1 ∧ F 2 = .slice a2 falls.length c2 ∧ D' = [] ∧ sg :: sp :: devSeg bd bl d :: [] = L') ⟨_, ⟨0, 0, 1, [], [], bg, bs, bd, bl, d1, sg, sp, by omega, by omega, by simp [size_nil], by omega, by omega, hw1, rfl, rfl, rfl, rfl, rfl, rfl, rfl, rfl, rfl, rfl⟩⟩ ?_
  rintro m F D' L' ⟨i, base, T, fs, us, bg, bs, bd, bl, d, sg, sp, hi, hi20, hsz, hbase, hT, hw, rfl, h12, h11, h9, h8, h0', h1', h2', rfl, rfl⟩
  refine C.fix (d := 12) h12 ?_
  refine C.fix (d := 11) h11 ?_
  refine C.fix (d := 9) h9 ?_
  refine C.fix (d := 8) h8 ?_
  refine C.fix (d := 0) h0' ?_
  refine C.fix (d := 1) h1' ?_
  refine C.fix (d := 2) h2' ?_
  refine C.seq ?_
  refine C.seq ?_
  refine C.region ?_
  refine G.moveI rfl trivial rfl rfl rfl ?_
  refine G.moveS rfl trivial rfl rfl rfl ?_
  refine G.lenSlice rfl trivial rfl rfl Try.underlying40 rfl ?_
  refine G.bin rfl trivial rfl rfl rfl rfl rfl ?_
  refine G.moveB rfl trivial rfl rfl rfl ?_
  refine G.fork (t := 34) _ rfl ?_ ?_
  · intro hg34
    refine G.moveI rfl ⟨_, rfl, rfl, rfl⟩ rfl rfl rfl ?_
    refine G.bin rfl ⟨_, rfl, rfl, rfl⟩ rfl rfl rfl rfl rfl ?_
    first | refine G.pickT rfl trivial rfl rfl rfl rfl ?_ | refine G.pickF rfl trivial rfl rfl rfl rfl ?_
    refine G.nil ?_
    refine C.cond _ rfl ?_ ?_
    · intro hc2
      have hlt : i < zs.length := by omega
      obtain ⟨p0, q0, rfl, _⟩ := (r0 []).some_ (by simp; omega)
      obtain ⟨N, hN, hN1, hN2, n1, n2, n3, n4, n5, n6⟩ := size_one zs[i] 500 (by decide) (by decide)
      refine C.skip ?_
      refine C.seq ?_
      refine C.block ?_
      refine C.seq ?_
      refine C.region ?_
      refine G.moveS rfl trivial rfl rfl rfl ?_
      refine G.moveI rfl trivial rfl rfl rfl ?_
      refine G.indexAddr rfl trivial rfl rfl Try.underlying40 I3 rfl rfl (by omega) ?_
      refine G.load (v := .int .i64 zs[i]) rfl trivial rfl rfl Try.underlying3 rfl rfl (fun w hm => Rd.ints_at r0 hlt w hm) ?_
      refine G.rem rfl trivial rfl rfl rfl rfl (by omega) ?_
      refine G.add rfl trivial rfl rfl rfl rfl (by omega) ?_
      refine G.rem rfl trivial rfl rfl rfl rfl (by omega) ?_
      refine G.add rfl trivial rfl rfl rfl rfl (by omega) ?_
      refine G.fix (d := 47) (v := .int .i64 (N : Int)) (by show Value.int .i64 _ = _; rw [← hN]) ?_
      refine G.assignI rfl trivial rfl rfl rfl ?_
      refine G.nil ?_
      refine C.seq ?_
      refine C.region ?_
      refine G.moveP rfl trivial rfl rfl rfl ?_
      refine G.moveI rfl trivial rfl rfl rfl ?_
      refine G.makeBytes (l := N) (c := N) rfl trivial rfl rfl Try.underlying31 I5 rfl rfl (by omega) ?_
      intro b51
      refine G.less (fun _ h => h.perm2) ?_
      have hzl : (List.replicate N (0 : UInt8)).length = N := List.length_replicate
      have hsu : size (us ++ [List.replicate N 0]) = size us + (N + 4) := by rw [size_append, size_cons, size_nil, hzl]
      refine G.call E12 rfl rfl trivial rfl rfl (wa_append W0 _ bg bs bd base T fs us d sg sp hw (by omega) _ N N (List.replicate N 0) hzl.symm (by rw [hzl]; omega) (by rw [hzl]; omega) (fun _ => Rd.row0 (.app .here))) rfl ?_
      rintro e L2 ⟨sg2, hw2, rfl, rfl⟩
      rw [hzl]
      refine G.less (fun _ h => h.skip1) ?_
      obtain ⟨E, hE⟩ : ∃ E, E = base + size fs + size us + (N + 4) := ⟨_, rfl⟩
      rw [← hE]
      refine G.moveU rfl trivial rfl rfl rfl ?_
      refine G.extractL rfl trivial rfl rfl rfl rfl ?_
      refine G.extractL rfl trivial rfl rfl rfl rfl ?_
      refine G.assignI rfl trivial rfl rfl rfl ?_
      refine G.assignI rfl trivial rfl rfl rfl ?_
      refine G.nil ?_
      refine C.seq ?_
      refine C.region ?_
      refine G.moveI rfl trivial rfl rfl rfl ?_
      refine G.moveI rfl trivial rfl rfl rfl ?_
      refine G.add rfl trivial rfl rfl rfl rfl (by omega) ?_
      refine G.fix (d := 57) (v := .int .i64 ((N + 4 : Nat) : Int)) (by show Value.int .i64 _ = _; congr 1) ?_
      refine G.add rfl trivial rfl rfl rfl rfl (by omega) ?_
      refine G.fix (d := 58) (v := .int .i64 (E : Int)) (by show Value.int .i64 _ = _; congr 1; omega) ?_
      refine G.assignI rfl trivial rfl rfl rfl ?_
      refine G.nil ?_
      refine C.seq ?_
      refine C.seq ?_
      refine C.region ?_
      refine G.moveI rfl trivial rfl rfl rfl ?_
      refine G.bin rfl trivial rfl rfl rfl rfl rfl ?_
      refine G.moveB rfl trivial rfl rfl rfl ?_
      refine G.no (t := 61) rfl (by simp) ?_
      refine G.moveI rfl ⟨_, rfl, rfl, rfl⟩ rfl rfl rfl ?_
      refine G.moveI rfl ⟨_, rfl, rfl, rfl⟩ rfl rfl rfl ?_
      refine G.bin rfl ⟨_, rfl, rfl, rfl⟩ rfl rfl rfl rfl rfl ?_
      first | refine G.pickT rfl trivial rfl rfl rfl rfl ?_ | refine G.pickF rfl trivial rfl rfl rfl rfl ?_
      refine G.moveB rfl trivial rfl rfl rfl ?_
      refine G.no (t := 66) rfl (by simp) ?_
      refine G.moveP rfl ⟨_, rfl, rfl, rfl⟩ rfl rfl rfl ?_
      refine G.call E19 rfl rfl ⟨_, rfl, rfl, rfl⟩ rfl rfl (wa_end W0 [] _ bg bs bd _ _ _ _ _ _ _ hw2) rfl ?_
      rintro e L2 ⟨rfl, rfl⟩
      rw [hsu]
      refine G.moveI rfl ⟨_, rfl, rfl, rfl⟩ rfl rfl rfl ?_
      refine G.bin rfl ⟨_, rfl, rfl, rfl⟩ rfl rfl rfl rfl rfl ?_
      first | refine G.pickT rfl trivial rfl rfl rfl rfl ?_ | refine G.pickF rfl trivial rfl rfl rfl rfl ?_
      refine G.nil ?_
      refine C.no rfl (by omega) ?_
      refine C.skip ?_
      refine C.seq ?_
      refine C.seq ?_
      refine C.region ?_
      refine G.moveI rfl trivial rfl rfl rfl ?_
      refine G.moveS rfl trivial rfl rfl rfl ?_
      refine G.lenSlice rfl trivial rfl rfl Try.underlying41 rfl ?_
      refine G.bin rfl trivial rfl rfl rfl rfl rfl ?_
      refine G.moveB rfl trivial rfl rfl rfl ?_
      refine G.fork (t := 76) _ rfl ?_ ?_
      · intro hg76
        refine G.moveS rfl ⟨_, rfl, rfl, rfl⟩ rfl rfl rfl ?_
        refine G.moveI rfl ⟨_, rfl, rfl, rfl⟩ rfl rfl rfl ?_
        obtain ⟨p1, q1, rfl, _⟩ := (r1 []).some_ (by simp; omega)
        have hlc : i < cuts.length := by omega
        refine G.indexAddr rfl ⟨_, rfl, rfl, rfl⟩ rfl rfl Try.underlying41 I4 rfl rfl (by omega) ?_
        refine G.load (v := .bool cuts[i]) rfl ⟨_, rfl, rfl, rfl⟩ rfl rfl Try.underlying4 rfl rfl (fun w hm => BoolRow.at r1 hlc w hm) ?_
        first | refine G.pickT rfl trivial rfl rfl rfl rfl ?_ | refine G.pickF rfl trivial rfl rfl rfl rfl ?_
        refine G.nil ?_
        refine C.condB _ rfl ?_ ?_
        · intro hc4
          refine C.seq ?_
          refine C.region ?_
          refine G.moveP rfl trivial rfl rfl rfl ?_
          refine G.call E13 rfl rfl trivial rfl rfl (wa_cut W0 _ bg bs bd bl _ _ _ _ _ _ _ hw2 (by omega) (by omega)) rfl ?_
          rintro e L2 ⟨sg3, sp3, d3, rfl, hw3, rfl⟩
          rw [hsu] at hw3
          refine G.bin rfl trivial rfl rfl rfl rfl rfl ?_
          refine G.moveB rfl trivial rfl rfl rfl ?_
          refine G.no (t := 85) rfl (by simp) ?_
          refine G.moveP rfl ⟨_, rfl, rfl, rfl⟩ rfl rfl rfl ?_
          refine G.call E15 rfl rfl ⟨_, rfl, rfl, rfl⟩ rfl rfl (wa_base W0 [] _ bg bs bd _ _ _ _ _ _ _ hw3) rfl ?_
          rintro e L2 ⟨rfl, rfl⟩
          refine G.moveI rfl ⟨_, rfl, rfl, rfl⟩ rfl rfl rfl ?_
          refine G.bin rfl ⟨_, rfl, rfl, rfl⟩ rfl rfl rfl rfl rfl ?_
          first | refine G.pickT rfl trivial rfl rfl rfl rfl ?_ | refine G.pickF rfl trivial rfl rfl rfl rfl ?_
          refine G.nil ?_
          refine C.no rfl (by omega) ?_
          refine C.skip ?_
          refine C.seq ?_
          refine C.region ?_
          have hw7 := hw3
          have he7 : base + size fs + (size us + (N + 4)) + size [] + size [] = E := by rw [size_nil]; omega
          have hs7 : base + size fs + (size us + (N + 4)) + size [] + size [] ≤ 504 * (i + 1) := by rw [size_nil]; omega
          have hb7 : base + size fs + (size us + (N + 4)) ≤ 504 * (i + 1) := by omega
          have hT7 : T + 2 ≤ 3 * i + 3 := by omega
          refine G.moveI rfl trivial rfl rfl rfl ?_
          refine G.moveS rfl trivial rfl rfl rfl ?_
          refine G.lenSlice rfl trivial rfl rfl Try.underlying41 rfl ?_
          refine G.bin rfl trivial rfl rfl rfl rfl rfl ?_
          refine G.moveB rfl trivial rfl rfl rfl ?_
          refine G.fork (t := 95) _ rfl ?_ ?_
          · intro hg95
            refine G.moveS rfl ⟨_, rfl, rfl, rfl⟩ rfl rfl rfl ?_
            refine G.moveI rfl ⟨_, rfl, rfl, rfl⟩ rfl rfl rfl ?_
            obtain ⟨p2, q2, rfl, _⟩ := (r2 []).some_ (by simp; omega)
            have hlf : i < falls.length := by omega
            refine G.indexAddr rfl ⟨_, rfl, rfl, rfl⟩ rfl rfl Try.underlying41 I4 rfl rfl (by omega) ?_
            refine G.load (v := .bool falls[i]) rfl ⟨_, rfl, rfl, rfl⟩ rfl rfl Try.underlying4 rfl rfl (fun w hm => BoolRow.at r2 hlf w hm) ?_
            first | refine G.pickT rfl trivial rfl rfl rfl rfl ?_ | refine G.pickF rfl trivial rfl rfl rfl rfl ?_
            refine G.nil ?_
            refine C.condB _ rfl ?_ ?_
            · intro hc6
              refine C.seq ?_
              refine C.seq ?_
              refine C.region ?_
              refine G.moveP rfl trivial rfl rfl rfl ?_
              refine G.moveI rfl trivial rfl rfl rfl ?_
              refine G.call E17 rfl rfl trivial rfl rfl (wa_forceAll W0 _ bg bs bd bl _ _ _ _ _ _ _ hw7 (by omega) (by omega) E (by omega)) rfl ?_
              rintro e L2 ⟨sg4, sp4, d4, rfl, hw4, rfl⟩
              obtain ⟨hok4, hln4, hlv4⟩ := hw4.dev
              have hwd4 := hw4.wd []
              refine G.bin rfl trivial rfl rfl rfl rfl rfl ?_
              refine G.nil ?_
              refine C.no rfl (by simp) ?_
              refine C.skip ?_
              refine C.seq ?_
              refine C.region ?_
              refine G.moveP rfl trivial rfl rfl rfl ?_
              refine G.call E20 rfl rfl trivial rfl rfl (crash_spec W0 [_, _] _ bd bl d4 hok4 (by omega) none 0 [] (Nat.le_refl _) (fun _ => Rd.nil)) rfl ?_
              rintro e L2 ⟨bc, bcl, rfl, rfl⟩
              have hlc4 := crash_live d4 []
              generalize d4.crash [] = dc at *
              refine G.assignP rfl trivial rfl rfl rfl ?_
              refine G.nil ?_
              refine C.seq ?_
              refine C.region ?_
              refine G.moveP rfl trivial rfl rfl rfl ?_
              refine G.call E16 rfl rfl trivial rfl rfl (wa_open W0 [] _ bc bcl _ _ _ dc hwd4 hlc4 (by omega) (by omega)) rfl ?_
              rintro e L2 ⟨bg5, bs5, sg5, sp5, v5, ls5, s50, s51, rfl, hw5, hro5, hls5, rfl⟩
              obtain ⟨p5, q5, rfl, hr5⟩ := hro5.form
              have hsn : size [] = 0 := size_nil
              refine G.moveU rfl trivial rfl rfl rfl ?_
              refine G.extractL rfl trivial rfl rfl rfl rfl ?_
              refine G.extractL rfl trivial rfl rfl rfl rfl ?_
              refine G.extractL rfl trivial rfl rfl rfl rfl ?_
              refine G.assignP rfl trivial rfl rfl rfl ?_
              refine G.assignS rfl trivial rfl rfl rfl ?_
              refine G.assignI rfl trivial rfl rfl rfl ?_
              refine G.nil ?_
              refine C.seq ?_
              refine C.seq ?_
              refine C.region ?_
              refine G.moveI rfl trivial rfl rfl rfl ?_
              refine G.bin rfl trivial rfl rfl rfl rfl rfl ?_
              refine G.moveB rfl trivial rfl rfl rfl ?_
              refine G.no (t := 115) rfl (by simp) ?_
              refine G.moveP rfl ⟨_, rfl, rfl, rfl⟩ rfl rfl rfl ?_
              refine G.call E19 rfl rfl ⟨_, rfl, rfl, rfl⟩ rfl rfl (wa_end W0 [_, _] _ bg5 bs5 bc _ _ _ _ dc sg5 sp5 hw5) rfl ?_
              rintro e L2 ⟨rfl, rfl⟩
              rw [size_append, size_nil]
              refine G.moveI rfl ⟨_, rfl, rfl, rfl⟩ rfl rfl rfl ?_
              refine G.bin rfl ⟨_, rfl, rfl, rfl⟩ rfl rfl rfl rfl rfl ?_
              first | refine G.pickT rfl trivial rfl rfl rfl rfl ?_ | refine G.pickF rfl trivial rfl rfl rfl rfl ?_
              refine G.moveB rfl trivial rfl rfl rfl ?_
              refine G.no (t := 121) rfl (by omega) ?_
              refine G.moveP rfl ⟨_, rfl, rfl, rfl⟩ rfl rfl rfl ?_
              refine G.call E15 rfl rfl ⟨_, rfl, rfl, rfl⟩ rfl rfl (wa_base W0 [_, _] _ bg5 bs5 bc _ _ _ _ dc sg5 sp5 hw5) rfl ?_
              rintro e L2 ⟨rfl, rfl⟩
              refine G.moveP rfl ⟨_, rfl, rfl, rfl⟩ rfl rfl rfl ?_
              refine G.call E15 rfl rfl ⟨_, rfl, rfl, rfl⟩ rfl rfl (wa_base W0 [_, _, _, _, _] _ bg bs bd _ _ _ _ d4 sg4 sp4 hw4) rfl ?_
              rintro e L2 ⟨rfl, rfl⟩
              refine G.bin rfl ⟨_, rfl, rfl, rfl⟩ rfl rfl rfl rfl rfl ?_
              first | refine G.pickT rfl trivial rfl rfl rfl rfl ?_ | refine G.pickF rfl trivial rfl rfl rfl rfl ?_
              refine G.nil ?_
              refine C.no rfl (by simp) ?_
              refine C.skip ?_
              refine C.region ?_
              refine G.moveP rfl trivial rfl rfl rfl ?_
              refine G.assignP rfl trivial rfl rfl rfl ?_
              refine G.less (fun _ h => Mem.keepN [_, _, _] (Mem.dropN [_, _] h)) ?_
              refine G.nil ?_
              refine C.region ?_
              refine G.moveI rfl trivial rfl rfl rfl ?_
              refine G.add rfl trivial rfl rfl rfl rfl (by omega) ?_
              refine G.assignI rfl trivial rfl rfl rfl ?_
              refine G.nil ?_
              exact ⟨zs.length - (i + 1), by omega, i + 1, _, _, _, [], bg5, bs5, bc, bcl, dc, sg5, sp5, by omega, by omega, by (rw [size_append]; omega), hb7, by omega, hw5, rfl, rfl, by (show Value.int .i64 _ = _; rw [size_append]; congr 1; omega), rfl, rfl, rfl, rfl, rfl, rfl, rfl⟩
            · intro hc6
              refine C.skip ?_
              refine C.region ?_
              refine G.moveI rfl trivial rfl rfl rfl ?_
              refine G.add rfl trivial rfl rfl rfl rfl (by omega) ?_
              refine G.assignI rfl trivial rfl rfl rfl ?_
              refine G.nil ?_
              exact ⟨zs.length - (i + 1), by omega, i + 1, _, _, _, _, bg, bs, bd, bl, _, _, _, by omega, by omega, hs7, hb7, by omega, hw7, rfl, rfl, by rw [he7]; rfl, rfl, rfl, rfl, rfl, rfl, rfl, rfl⟩
          · intro hg95
            refine G.skip rfl rfl rfl rfl rfl rfl ?_
            refine G.skip rfl rfl rfl rfl rfl rfl ?_
            refine G.skip rfl rfl rfl rfl rfl rfl ?_
            refine G.skip rfl rfl rfl rfl rfl rfl ?_
            first | refine G.pickT rfl trivial rfl rfl rfl rfl ?_ | refine G.pickF rfl trivial rfl rfl rfl rfl ?_
            refine G.nil ?_
            refine C.condF rfl ?_
            refine C.skip ?_
            refine C.region ?_
            refine G.moveI rfl trivial rfl rfl rfl ?_
            refine G.add rfl trivial rfl rfl rfl rfl (by omega) ?_
            refine G.assignI rfl trivial rfl rfl rfl ?_
            refine G.nil ?_
            exact ⟨zs.length - (i + 1), by omega, i + 1, _, _, _, _, bg, bs, bd, bl, _, _, _, by omega, by omega, hs7, hb7, by omega, hw7, rfl, rfl, by rw [he7]; rfl, rfl, rfl, rfl, rfl, rfl, rfl, rfl⟩
        · intro hc4
          refine C.skip ?_
          refine C.seq ?_
          refine C.region ?_
          have hw7 := hw2
          have he7 : base + size fs + size (us ++ [List.replicate N 0]) = E := by omega
          have hs7 : base + size fs + size (us ++ [List.replicate N 0]) ≤ 504 * (i + 1) := by omega
          have hb7 : base ≤ 504 * (i + 1) := by omega
          have hT7 : T ≤ 3 * i + 3 := by omega
          refine G.moveI rfl trivial rfl rfl rfl ?_
          refine G.moveS rfl trivial rfl rfl rfl ?_
          refine G.lenSlice rfl trivial rfl rfl Try.underlying41 rfl ?_
          refine G.bin rfl trivial rfl rfl rfl rfl rfl ?_
          refine G.moveB rfl trivial rfl rfl rfl ?_
          refine G.fork (t := 95) _ rfl ?_ ?_
          · intro hg95
            refine G.moveS rfl ⟨_, rfl, rfl, rfl⟩ rfl rfl rfl ?_
            refine G.moveI rfl ⟨_, rfl, rfl, rfl⟩ rfl rfl rfl ?_
            obtain ⟨p2, q2, rfl, _⟩ := (r2 []).some_ (by simp; omega)
            have hlf : i < falls.length := by omega
            refine G.indexAddr rfl ⟨_, rfl, rfl, rfl⟩ rfl rfl Try.underlying41 I4 rfl rfl (by omega) ?_
            refine G.load (v := .bool falls[i]) rfl ⟨_, rfl, rfl, rfl⟩ rfl rfl Try.underlying4 rfl rfl (fun w hm => BoolRow.at r2 hlf w hm) ?_
            first | refine G.pickT rfl trivial rfl rfl rfl rfl ?_ | refine G.pickF rfl trivial rfl rfl rfl rfl ?_
            refine G.nil ?_
            refine C.condB _ rfl ?_ ?_
            · intro hc6
              refine C.seq ?_
              refine C.seq ?_
              refine C.region ?_
              refine G.moveP rfl trivial rfl rfl rfl ?_
              refine G.moveI rfl trivial rfl rfl rfl ?_
              refine G.call E17 rfl rfl trivial rfl rfl (wa_forceAll W0 _ bg bs bd bl _ _ _ _ _ _ _ hw7 (by omega) (by omega) E (by omega)) rfl ?_
              rintro e L2 ⟨sg4, sp4, d4, rfl, hw4, rfl⟩
              obtain ⟨hok4, hln4, hlv4⟩ := hw4.dev
              have hwd4 := hw4.wd []
              refine G.bin rfl trivial rfl rfl rfl rfl rfl ?_
              refine G.nil ?_
              refine C.no rfl (by simp) ?_
              refine C.skip ?_
              refine C.seq ?_
              refine C.region ?_
              refine G.moveP rfl trivial rfl rfl rfl ?_
              refine G.call E20 rfl rfl trivial rfl rfl (crash_spec W0 [_, _] _ bd bl d4 hok4 (by omega) none 0 [] (Nat.le_refl _) (fun _ => Rd.nil)) rfl ?_
              rintro e L2 ⟨bc, bcl, rfl, rfl⟩
              have hlc4 := crash_live d4 []
              generalize d4.crash [] = dc at *
              refine G.assignP rfl trivial rfl rfl rfl ?_
              refine G.nil ?_
              refine C.seq ?_
              refine C.region ?_
              refine G.moveP rfl trivial rfl rfl rfl ?_
              refine G.call E16 rfl rfl trivial rfl rfl (wa_open W0 [] _ bc bcl _ _ _ dc hwd4 hlc4 (by omega) (by omega)) rfl ?_
              rintro e L2 ⟨bg5, bs5, sg5, sp5, v5, ls5, s50, s51, rfl, hw5, hro5, hls5, rfl⟩
              obtain ⟨p5, q5, rfl, hr5⟩ := hro5.form
              have hsn : size [] = 0 := size_nil
              refine G.moveU rfl trivial rfl rfl rfl ?_
              refine G.extractL rfl trivial rfl rfl rfl rfl ?_
              refine G.extractL rfl trivial rfl rfl rfl rfl ?_
              refine G.extractL rfl trivial rfl rfl rfl rfl ?_
              refine G.assignP rfl trivial rfl rfl rfl ?_
              refine G.assignS rfl trivial rfl rfl rfl ?_
              refine G.assignI rfl trivial rfl rfl rfl ?_
              refine G.nil ?_
              refine C.seq ?_
              refine C.seq ?_
              refine C.region ?_
              refine G.moveI rfl trivial rfl rfl rfl ?_
              refine G.bin rfl trivial rfl rfl rfl rfl rfl ?_
              refine G.moveB rfl trivial rfl rfl rfl ?_
              refine G.no (t := 115) rfl (by simp) ?_
              refine G.moveP rfl ⟨_, rfl, rfl, rfl⟩ rfl rfl rfl ?_
              refine G.call E19 rfl rfl ⟨_, rfl, rfl, rfl⟩ rfl rfl (wa_end W0 [_, _] _ bg5 bs5 bc _ _ _ _ dc sg5 sp5 hw5) rfl ?_
              rintro e L2 ⟨rfl, rfl⟩
              rw [size_append, size_nil]
              refine G.moveI rfl ⟨_, rfl, rfl, rfl⟩ rfl rfl rfl ?_
              refine G.bin rfl ⟨_, rfl, rfl, rfl⟩ rfl rfl rfl rfl rfl ?_
              first | refine G.pickT rfl trivial rfl rfl rfl rfl ?_ | refine G.pickF rfl trivial rfl rfl rfl rfl ?_
              refine G.moveB rfl trivial rfl rfl rfl ?_
              refine G.no (t := 121) rfl (by omega) ?_
              refine G.moveP rfl ⟨_, rfl, rfl, rfl⟩ rfl rfl rfl ?_
              refine G.call E15 rfl rfl ⟨_, rfl, rfl, rfl⟩ rfl rfl (wa_base W0 [_, _] _ bg5 bs5 bc _ _ _ _ dc sg5 sp5 hw5) rfl ?_
              rintro e L2 ⟨rfl, rfl⟩
              refine G.moveP rfl ⟨_, rfl, rfl, rfl⟩ rfl rfl rfl ?_
              refine G.call E15 rfl rfl ⟨_, rfl, rfl, rfl⟩ rfl rfl (wa_base W0 [_, _, _, _, _] _ bg bs bd _ _ _ _ d4 sg4 sp4 hw4) rfl ?_
              rintro e L2 ⟨rfl, rfl⟩
              refine G.bin rfl ⟨_, rfl, rfl, rfl⟩ rfl rfl rfl rfl rfl ?_
              first | refine G.pickT rfl trivial rfl rfl rfl rfl ?_ | refine G.pickF rfl trivial rfl rfl rfl rfl ?_
              refine G.nil ?_
              refine C.no rfl (by simp) ?_
              refine C.skip ?_
              refine C.region ?_
              refine G.moveP rfl trivial rfl rfl rfl ?_
              refine G.assignP rfl trivial rfl rfl rfl ?_
              refine G.less (fun _ h => Mem.keepN [_, _, _] (Mem.dropN [_, _] h)) ?_
              refine G.nil ?_
              refine C.region ?_
              refine G.moveI rfl trivial rfl rfl rfl ?_
              refine G.add rfl trivial rfl rfl rfl rfl (by omega) ?_
              refine G.assignI rfl trivial rfl rfl rfl ?_
              refine G.nil ?_
              exact ⟨zs.length - (i + 1), by omega, i + 1, _, _, _, [], bg5, bs5, bc, bcl, dc, sg5, sp5, by omega, by omega, by (rw [size_append]; omega), hb7, by omega, hw5, rfl, rfl, by (show Value.int .i64 _ = _; rw [size_append]; congr 1; omega), rfl, rfl, rfl, rfl, rfl, rfl, rfl⟩
            · intro hc6
              refine C.skip ?_
              refine C.region ?_
              refine G.moveI rfl trivial rfl rfl rfl ?_
              refine G.add rfl trivial rfl rfl rfl rfl (by omega) ?_
              refine G.assignI rfl trivial rfl rfl rfl ?_
              refine G.nil ?_
              exact ⟨zs.length - (i + 1), by omega, i + 1, _, _, _, _, bg, bs, bd, bl, _, _, _, by omega, by omega, hs7, hb7, by omega, hw7, rfl, rfl, by rw [he7]; rfl, rfl, rfl, rfl, rfl, rfl, rfl, rfl⟩
          · intro hg95
            refine G.skip rfl rfl rfl rfl rfl rfl ?_
            refine G.skip rfl rfl rfl rfl rfl rfl ?_
            refine G.skip rfl rfl rfl rfl rfl rfl ?_
            refine G.skip rfl rfl rfl rfl rfl rfl ?_
            first | refine G.pickT rfl trivial rfl rfl rfl rfl ?_ | refine G.pickF rfl trivial rfl rfl rfl rfl ?_
            refine G.nil ?_
            refine C.condF rfl ?_
            refine C.skip ?_
            refine C.region ?_
            refine G.moveI rfl trivial rfl rfl rfl ?_
            refine G.add rfl trivial rfl rfl rfl rfl (by omega) ?_
            refine G.assignI rfl trivial rfl rfl rfl ?_
            refine G.nil ?_
            exact ⟨zs.length - (i + 1), by omega, i + 1, _, _, _, _, bg, bs, bd, bl, _, _, _, by omega, by omega, hs7, hb7, by omega, hw7, rfl, rfl, by rw [he7]; rfl, rfl, rfl, rfl, rfl, rfl, rfl, rfl⟩
      · intro hg76
        refine G.skip rfl rfl rfl rfl rfl rfl ?_
        refine G.skip rfl rfl rfl rfl rfl rfl ?_
        refine G.skip rfl rfl rfl rfl rfl rfl ?_
        refine G.skip rfl rfl rfl rfl rfl rfl ?_
        first | refine G.pickT rfl trivial rfl rfl rfl rfl ?_ | refine G.pickF rfl trivial rfl rfl rfl rfl ?_
        refine G.nil ?_
        refine C.condF rfl ?_
        refine C.skip ?_
        refine C.seq ?_
        refine C.region ?_
        have hw7 := hw2
        have he7 : base + size fs + size (us ++ [List.replicate N 0]) = E := by omega
        have hs7 : base + size fs + size (us ++ [List.replicate N 0]) ≤ 504 * (i + 1) := by omega
        have hb7 : base ≤ 504 * (i + 1) := by omega
        have hT7 : T ≤ 3 * i + 3 := by omega
        refine G.moveI rfl trivial rfl rfl rfl ?_
        refine G.moveS rfl trivial rfl rfl rfl ?_
        refine G.lenSlice rfl trivial rfl rfl Try.underlying41 rfl ?_
        refine G.bin rfl trivial rfl rfl rfl rfl rfl ?_
        refine G.moveB rfl trivial rfl rfl rfl ?_
        refine G.fork (t := 95) _ rfl ?_ ?_
        · intro hg95
          refine G.moveS rfl ⟨_, rfl, rfl, rfl⟩ rfl rfl rfl ?_
          refine G.moveI rfl ⟨_, rfl, rfl, rfl⟩ rfl rfl rfl ?_
          obtain ⟨p2, q2, rfl, _⟩ := (r2 []).some_ (by simp; omega)
          have hlf : i < falls.length := by omega
          refine G.indexAddr rfl ⟨_, rfl, rfl, rfl⟩ rfl rfl Try.underlying41 I4 rfl rfl (by omega) ?_
          refine G.load (v := .bool falls[i]) rfl ⟨_, rfl, rfl, rfl⟩ rfl rfl Try.underlying4 rfl rfl (fun w hm => BoolRow.at r2 hlf w hm) ?_
          first | refine G.pickT rfl trivial rfl rfl rfl rfl ?_ | refine G.pickF rfl trivial rfl rfl rfl rfl ?_
          refine G.nil ?_
          refine C.condB _ rfl ?_ ?_
          · intro hc6
            refine C.seq ?_
            refine C.seq ?_
            refine C.region ?_
            refine G.moveP rfl trivial rfl rfl rfl ?_
            refine G.moveI rfl trivial rfl rfl rfl ?_
            refine G.call E17 rfl rfl trivial rfl rfl (wa_forceAll W0 _ bg bs bd bl _ _ _ _ _ _ _ hw7 (by omega) (by omega) E (by omega)) rfl ?_
            rintro e L2 ⟨sg4, sp4, d4, rfl, hw4, rfl⟩
            obtain ⟨hok4, hln4, hlv4⟩ := hw4.dev
            have hwd4 := hw4.wd []
            refine G.bin rfl trivial rfl rfl rfl rfl rfl ?_
            refine G.nil ?_
            refine C.no rfl (by simp) ?_
            refine C.skip ?_
            refine C.seq ?_
            refine C.region ?_
            refine G.moveP rfl trivial rfl rfl rfl ?_
            refine G.call E20 rfl rfl trivial rfl rfl (crash_spec W0 [_, _] _ bd bl d4 hok4 (by omega) none 0 [] (Nat.le_refl _) (fun _ => Rd.nil)) rfl ?_
            rintro e L2 ⟨bc, bcl, rfl, rfl⟩
            have hlc4 := crash_live d4 []
            generalize d4.crash [] = dc at *
            refine G.assignP rfl trivial rfl rfl rfl ?_
            refine G.nil ?_
            refine C.seq ?_
            refine C.region ?_
            refine G.moveP rfl trivial rfl rfl rfl ?_
            refine G.call E16 rfl rfl trivial rfl rfl (wa_open W0 [] _ bc bcl _ _ _ dc hwd4 hlc4 (by omega) (by omega)) rfl ?_
            rintro e L2 ⟨bg5, bs5, sg5, sp5, v5, ls5, s50, s51, rfl, hw5, hro5, hls5, rfl⟩
            obtain ⟨p5, q5, rfl, hr5⟩ := hro5.form
            have hsn : size [] = 0 := size_nil
            refine G.moveU rfl trivial rfl rfl rfl ?_
            refine G.extractL rfl trivial rfl rfl rfl rfl ?_
            refine G.extractL rfl trivial rfl rfl rfl rfl ?_
            refine G.extractL rfl trivial rfl rfl rfl rfl ?_
            refine G.assignP rfl trivial rfl rfl rfl ?_
            refine G.assignS rfl trivial rfl rfl rfl ?_
            refine G.assignI rfl trivial rfl rfl rfl ?_
            refine G.nil ?_
            refine C.seq ?_
            refine C.seq ?_
            refine C.region ?_
            refine G.moveI rfl trivial rfl rfl rfl ?_
            refine G.bin rfl trivial rfl rfl rfl rfl rfl ?_
            refine G.moveB rfl trivial rfl rfl rfl ?_
            refine G.no (t := 115) rfl (by simp) ?_
            refine G.moveP rfl ⟨_, rfl, rfl, rfl⟩ rfl rfl rfl ?_
            refine G.call E19 rfl rfl ⟨_, rfl, rfl, rfl⟩ rfl rfl (wa_end W0 [_, _] _ bg5 bs5 bc _ _ _ _ dc sg5 sp5 hw5) rfl ?_
            rintro e L2 ⟨rfl, rfl⟩
            rw [size_append, size_nil]
            refine G.moveI rfl ⟨_, rfl, rfl, rfl⟩ rfl rfl rfl ?_
            refine G.bin rfl ⟨_, rfl, rfl, rfl⟩ rfl rfl rfl rfl rfl ?_
            first | refine G.pickT rfl trivial rfl rfl rfl rfl ?_ | refine G.pickF rfl trivial rfl rfl rfl rfl ?_
            refine G.moveB rfl trivial rfl rfl rfl ?_
            refine G.no (t := 121) rfl (by omega) ?_
            refine G.moveP rfl ⟨_, rfl, rfl, rfl⟩ rfl rfl rfl ?_
            refine G.call E15 rfl rfl ⟨_, rfl, rfl, rfl⟩ rfl rfl (wa_base W0 [_, _] _ bg5 bs5 bc _ _ _ _ dc sg5 sp5 hw5) rfl ?_
            rintro e L2 ⟨rfl, rfl⟩
            refine G.moveP rfl ⟨_, rfl, rfl, rfl⟩ rfl rfl rfl ?_
            refine G.call E15 rfl rfl ⟨_, rfl, rfl, rfl⟩ rfl rfl (wa_base W0 [_, _, _, _, _] _ bg bs bd _ _ _ _ d4 sg4 sp4 hw4) rfl ?_
            rintro e L2 ⟨rfl, rfl⟩
            refine G.bin rfl ⟨_, rfl, rfl, rfl⟩ rfl rfl rfl rfl rfl ?_
            first | refine G.pickT rfl trivial rfl rfl rfl rfl ?_ | refine G.pickF rfl trivial rfl rfl rfl rfl ?_
            refine G.nil ?_
            refine C.no rfl (by simp) ?_
            refine C.skip ?_
            refine C.region ?_
            refine G.moveP rfl trivial rfl rfl rfl ?_
            refine G.assignP rfl trivial rfl rfl rfl ?_
            refine G.less (fun _ h => Mem.keepN [_, _, _] (Mem.dropN [_, _] h)) ?_
            refine G.nil ?_
            refine C.region ?_
            refine G.moveI rfl trivial rfl rfl rfl ?_
            refine G.add rfl trivial rfl rfl rfl rfl (by omega) ?_
            refine G.assignI rfl trivial rfl rfl rfl ?_
            refine G.nil ?_
            exact ⟨zs.length - (i + 1), by omega, i + 1, _, _, _, [], bg5, bs5, bc, bcl, dc, sg5, sp5, by omega, by omega, by (rw [size_append]; omega), hb7, by omega, hw5, rfl, rfl, by (show Value.int .i64 _ = _; rw [size_append]; congr 1; omega), rfl, rfl, rfl, rfl, rfl, rfl, rfl⟩
          · intro hc6
            refine C.skip ?_
            refine C.region ?_
            refine G.moveI rfl trivial rfl rfl rfl ?_
            refine G.add rfl trivial rfl rfl rfl rfl (by omega) ?_
            refine G.assignI rfl trivial rfl rfl rfl ?_
            refine G.nil ?_
            exact ⟨zs.length - (i + 1), by omega, i + 1, _, _, _, _, bg, bs, bd, bl, _, _, _, by omega, by omega, hs7, hb7, by omega, hw7, rfl, rfl, by rw [he7]; rfl, rfl, rfl, rfl, rfl, rfl, rfl, rfl⟩
        · intro hg95
          refine G.skip rfl rfl rfl rfl rfl rfl ?_
          refine G.skip rfl rfl rfl rfl rfl rfl ?_
          refine G.skip rfl rfl rfl rfl rfl rfl ?_
          refine G.skip rfl rfl rfl rfl rfl rfl ?_
          first | refine G.pickT rfl trivial rfl rfl rfl rfl ?_ | refine G.pickF rfl trivial rfl rfl rfl rfl ?_
          refine G.nil ?_
          refine C.condF rfl ?_
          refine C.skip ?_
          refine C.region ?_
          refine G.moveI rfl trivial rfl rfl rfl ?_
          refine G.add rfl trivial rfl rfl rfl rfl (by omega) ?_
          refine G.assignI rfl trivial rfl rfl rfl ?_
          refine G.nil ?_
          exact ⟨zs.length - (i + 1), by omega, i + 1, _, _, _, _, bg, bs, bd, bl, _, _, _, by omega, by omega, hs7, hb7, by omega, hw7, rfl, rfl, by rw [he7]; rfl, rfl, rfl, rfl, rfl, rfl, rfl, rfl⟩
    · intro hc2
      refine C.exit ?_
      refine C.seq ?_
      refine C.region ?_
      refine G.moveP rfl trivial rfl rfl rfl ?_
      refine G.moveI rfl trivial rfl rfl rfl ?_
      refine G.call E17 rfl rfl trivial rfl rfl (wa_forceAll W0 _ bg bs bd bl _ _ _ _ _ _ _ hw (by omega) (by omega) (base + size fs + size us) (Nat.le_refl _)) rfl ?_
      rintro e L2 ⟨sg4, sp4, d4, rfl, hw4, rfl⟩
      refine G.bin rfl trivial rfl rfl rfl rfl rfl ?_
      refine G.moveB rfl trivial rfl rfl rfl ?_
      refine G.yes (t := 133) rfl rfl ?_
      refine G.moveP rfl ⟨_, rfl, rfl, rfl⟩ rfl rfl rfl ?_
      refine G.call E18 rfl rfl ⟨_, rfl, rfl, rfl⟩ rfl rfl (wa_forced W0 [] _ bg bs bd _ _ _ _ _ _ _ hw4) rfl ?_
      rintro e L2 ⟨rfl, rfl⟩
      rw [size_append]
      refine G.moveI rfl ⟨_, rfl, rfl, rfl⟩ rfl rfl rfl ?_
      refine G.bin rfl ⟨_, rfl, rfl, rfl⟩ rfl rfl rfl rfl rfl ?_
      first | refine G.pickT rfl trivial rfl rfl rfl rfl ?_ | refine G.pickF rfl trivial rfl rfl rfl rfl ?_
      refine G.yes (t := 138) rfl (by omega) ?_
      refine G.assignB rfl trivial rfl rfl rfl ?_
      refine G.nil ?_
      refine C.ret ?_
      -- end g34Tc2F
      exact ⟨rfl, _, Res.of (rs := [.tmp 6]) rfl rfl, rfl⟩
  · intro hg34
    refine G.skip rfl rfl rfl rfl rfl rfl ?_
    refine G.skip rfl rfl rfl rfl rfl rfl ?_
    first | refine G.pickT rfl trivial rfl rfl rfl rfl ?_ | refine G.pickF rfl trivial rfl rfl rfl rfl ?_
    refine G.nil ?_
    refine C.condF rfl ?_
    refine C.exit ?_
    refine C.seq ?_
    refine C.region ?_
    refine G.moveP rfl trivial rfl rfl rfl ?_
    refine G.moveI rfl trivial rfl rfl rfl ?_
    refine G.call E17 rfl rfl trivial rfl rfl (wa_forceAll W0 _ bg bs bd bl _ _ _ _ _ _ _ hw (by omega) (by omega) (base + size fs + size us) (Nat.le_refl _)) rfl ?_
    rintro e L2 ⟨sg4, sp4, d4, rfl, hw4, rfl⟩
    refine G.bin rfl trivial rfl rfl rfl rfl rfl ?_
    refine G.moveB rfl trivial rfl rfl rfl ?_
    refine G.yes (t := 133) rfl rfl ?_
    refine G.moveP rfl ⟨_, rfl, rfl, rfl⟩ rfl rfl rfl ?_
    refine G.call E18 rfl rfl ⟨_, rfl, rfl, rfl⟩ rfl rfl (wa_forced W0 [] _ bg bs bd _ _ _ _ _ _ _ hw4) rfl ?_
    rintro e L2 ⟨rfl, rfl⟩
    rw [size_append]
    refine G.moveI rfl ⟨_, rfl, rfl, rfl⟩ rfl rfl rfl ?_
    refine G.bin rfl ⟨_, rfl, rfl, rfl⟩ rfl rfl rfl rfl rfl ?_
    first | refine G.pickT rfl trivial rfl rfl rfl rfl ?_ | refine G.pickF rfl trivial rfl rfl rfl rfl ?_
    refine G.yes (t := 138) rfl (by omega) ?_
    refine G.assignB rfl trivial rfl rfl rfl ?_
    refine G.nil ?_
    refine C.ret ?_
    -- end g34F
    exact ⟨rfl, _, Res.of (rs := [.tmp 6]) rfl rfl, rfl⟩
end Go.Proofs.Ytjfjmhmfhkdcbaa
