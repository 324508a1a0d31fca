/-
  The laws of the log: written, forced and cut without end.
-/
import Derived.Test.YtjfjmhmfhkdcbaaWl13
import Derived.Test.YtjfjmhmfhkdcbaaWl12
namespace Go.Proofs.Ytjfjmhmfhkdcbaa
open Go Go.SL Go.RowKit

theorem Mem.keepN {W0 w : World} (A : List Seg) {C : List Seg} (h : Mem W0 w (A ++ C)) : Mem W0 w A := h.fewer (by
  rw [List.flatten_append]
  exact List.sublist_append_left _ _)
def ringB (sz r k : Nat) : List UInt8 := ((List.replicate sz 0).set 0 (UInt8.ofNat r)).set (sz - 1) (UInt8.ofNat (r + k))
theorem ringB_length (sz r k : Nat) : (ringB sz r k).length = sz := by simp [ringB]
theorem ringB_last {sz : Nat} (h : 1 ≤ sz) (r k : Nat) : (ringB sz r k)[sz - 1]? = some (UInt8.ofNat (r + k)) := by
  unfold ringB
  rw [List.getElem?_set, if_pos rfl, if_pos (by simp; omega)]
def ringU (sz r k : Nat) : List (List UInt8) := (List.range k).map fun i => ringB sz r i
theorem ringU_succ (sz r k : Nat) : ringU sz r (k + 1) = ringU sz r k ++ [ringB sz r k] := by simp [ringU, List.range_succ]
theorem ringU_size (sz r : Nat) : ∀ k, size (ringU sz r k) = k * (sz + 4)
  | 0 => by simp [ringU, size_nil]
  | k + 1 => by rw [ringU_succ, size_append, ringU_size sz r k, size_cons, size_nil, ringB_length, Nat.succ_mul]
theorem ring_walk (W0 : World) (rounds sz : Nat) (h1 : rounds ≤ 12) (h2 : 1 ≤ sz) (h3 : sz ≤ 30000) :
    FnS Try.prog W0 6 #[.int .i64 (rounds : Int), .int .i64 (sz : Int)] [] (fun e _ => e = .returned (.bool true)) := by
  obtain ⟨hok0, hlv0, hln0⟩ := newW
  refine FnS.of (args := [.int .i64 (rounds : Int), .int .i64 (sz : Int)]) Try.func6 rfl rfl ?_
  refine C.seq ?_
  refine C.region ?_
  refine G.assignB rfl trivial rfl rfl rfl ?_
  refine G.nil ?_
  refine C.seq ?_
  refine C.region ?_
  refine G.call E9 rfl rfl trivial rfl rfl (beganW_spec W0 _) rfl ?_
  rintro e L2 ⟨rfl, rfl⟩
  refine G.assignB rfl trivial rfl rfl rfl ?_
  refine G.nil ?_
  refine C.seq ?_
  refine C.seq ?_
  refine C.region ?_
  refine G.moveB rfl trivial rfl rfl rfl ?_
  first | refine G.notD rfl trivial rfl rfl rfl ?_ | refine G.not rfl trivial rfl rfl rfl ?_
  refine G.fix (d := 19) (v := .bool false) rfl ?_
  refine G.nil ?_
  refine C.condF rfl ?_
  refine C.skip ?_
  refine C.seq ?_
  refine C.seq ?_
  refine C.region ?_
  refine G.moveI rfl trivial rfl rfl rfl ?_
  refine G.bin rfl trivial rfl rfl rfl rfl rfl ?_
  refine G.moveB rfl trivial rfl rfl rfl ?_
  refine G.no (t := 22) rfl (by omega) ?_
  refine G.moveI rfl ⟨_, rfl, rfl, rfl⟩ rfl rfl rfl ?_
  refine G.bin rfl ⟨_, rfl, rfl, rfl⟩ rfl rfl rfl rfl rfl ?_
  first | refine G.pickT rfl trivial rfl rfl rfl rfl ?_ | refine G.pickF rfl trivial rfl rfl rfl rfl ?_
  refine G.moveB rfl trivial rfl rfl rfl ?_
  refine G.no (t := 26) rfl (by omega) ?_
  refine G.moveI rfl ⟨_, rfl, rfl, rfl⟩ rfl rfl rfl ?_
  refine G.bin rfl ⟨_, rfl, rfl, rfl⟩ rfl rfl rfl rfl rfl ?_
  first | refine G.pickT rfl trivial rfl rfl rfl rfl ?_ | refine G.pickF rfl trivial rfl rfl rfl rfl ?_
  refine G.moveB rfl trivial rfl rfl rfl ?_
  refine G.no (t := 30) rfl (by omega) ?_
  refine G.moveI rfl ⟨_, rfl, rfl, rfl⟩ rfl rfl rfl ?_
  refine G.bin rfl ⟨_, rfl, rfl, rfl⟩ rfl rfl rfl rfl rfl ?_
  first | refine G.pickT rfl trivial rfl rfl rfl rfl ?_ | refine G.pickF rfl trivial rfl rfl rfl rfl ?_
  refine G.nil ?_
  refine C.no rfl (by omega) ?_
  refine C.skip ?_
  refine C.seq ?_
  refine C.region ?_
  refine G.call E11 rfl rfl trivial rfl rfl (new_spec W0 _ 1410) rfl ?_
  rintro e L2 ⟨bd, bl, rfl, rfl⟩
  rw [show clampN 1410 = 1410 from rfl]
  generalize newDv 1410 = d0 at *
  refine G.assignP rfl trivial rfl rfl rfl ?_
  refine G.nil ?_
  refine C.seq ?_
  refine C.region ?_
  refine G.moveP rfl trivial rfl rfl rfl ?_
  refine G.call E10 rfl rfl trivial rfl rfl (wa_make W0 [] _ bd bl d0 hok0 hlv0 hln0) rfl ?_
  rintro e L2 ⟨bg, bs, sg, sp, d1, rfl, hw1, rfl⟩
  refine G.moveU rfl trivial rfl rfl rfl ?_
  refine G.extractL rfl trivial rfl rfl rfl rfl ?_
  refine G.extractL rfl trivial rfl rfl rfl rfl ?_
  refine G.assignP rfl trivial rfl rfl rfl ?_
  refine G.assignI rfl trivial rfl rfl rfl ?_
  refine G.nil ?_
  refine C.seq ?_
  refine C.seq ?_
  refine C.region ?_
  refine G.assignI rfl trivial rfl rfl rfl ?_
  refine G.nil ?_
  refine C.block ?_
  refine C.loop (fun m F D' L' => ∃ (r base T : Nat) (d : Dv) (sg sp : Seg), r ≤ rounds ∧ base ≤ 60008 * r ∧ T ≤ 3 * r + 1 ∧ WA bg bs bd base [] [] T d sg sp ∧ m = rounds - r ∧ F 9 = .int .i64 (r : Int) ∧ F 7 = ptr bg ∧ F 6 = ptr bd ∧ F 0 = .int .i64 (rounds : Int) ∧ F 1 = .int .i64 (sz : Int) ∧ D' = [] ∧ sg :: sp :: devSeg bd bl d :: [] = L') ⟨_, ⟨0, 0, 1, d1, sg, sp, by omega, by omega, by omega, hw1, rfl, rfl, rfl, rfl, rfl, rfl, rfl, rfl⟩⟩ ?_
  rintro m F D' L' ⟨r, base, T, d, sg, sp, hr, hbase, hT, hw, rfl, h9, h7, h6, h0', h1', rfl, rfl⟩
  refine C.fix (d := 9) h9 ?_
  refine C.fix (d := 7) h7 ?_
  refine C.fix (d := 6) h6 ?_
  refine C.fix (d := 0) h0' ?_
  refine C.fix (d := 1) h1' ?_
  refine C.seq ?_
  refine C.seq ?_
  refine C.region ?_
  refine G.moveI rfl trivial rfl rfl rfl ?_
  refine G.moveI rfl trivial rfl rfl rfl ?_
  refine G.bin rfl trivial rfl rfl rfl rfl rfl ?_
  refine G.nil ?_
  refine C.cond _ rfl ?_ ?_
  · intro hc2
    refine C.skip ?_
    refine C.seq ?_
    refine C.block ?_
    refine C.seq ?_
    refine C.seq ?_
    refine C.region ?_
    refine G.assignI rfl trivial rfl rfl rfl ?_
    refine G.nil ?_
    refine C.block ?_
    refine C.loop (fun m F D' L' => ∃ (i : Nat) (sg : Seg), i ≤ 2 ∧ WA bg bs bd base [] (ringU sz r i) T d sg sp ∧ m = 2 - i ∧ F 10 = .int .i64 (i : Int) ∧ F 9 = .int .i64 (r : Int) ∧ F 7 = ptr bg ∧ F 6 = ptr bd ∧ F 0 = .int .i64 (rounds : Int) ∧ F 1 = .int .i64 (sz : Int) ∧ D' = [] ∧ sg :: sp :: devSeg bd bl d :: [] = L') ⟨_, ⟨0, sg, by omega, hw, rfl, rfl, rfl, rfl, rfl, rfl, rfl, rfl, rfl⟩⟩ ?_
    rintro m F D' L' ⟨i, sg3, hi, hw3, rfl, h10, h9, h7, h6, h0', h1', rfl, rfl⟩
    refine C.fix (d := 10) h10 ?_
    refine C.fix (d := 9) h9 ?_
    refine C.fix (d := 7) h7 ?_
    refine C.fix (d := 6) h6 ?_
    refine C.fix (d := 0) h0' ?_
    refine C.fix (d := 1) h1' ?_
    refine C.seq ?_
    refine C.seq ?_
    refine C.region ?_
    refine G.moveI rfl trivial rfl rfl rfl ?_
    refine G.bin rfl trivial rfl rfl rfl rfl rfl ?_
    refine G.nil ?_
    refine C.cond _ rfl ?_ ?_
    · intro hc3
      refine C.skip ?_
      refine C.seq ?_
      refine C.block ?_
      refine C.seq ?_
      refine C.region ?_
      refine G.moveI rfl trivial rfl rfl rfl ?_
      refine G.makeBytes (l := sz) (c := sz) rfl trivial rfl rfl Try.underlying31 I5 rfl rfl (by omega) ?_
      intro b50
      refine G.assignS rfl trivial rfl rfl rfl ?_
      refine G.nil ?_
      refine C.seq ?_
      refine C.region ?_
      refine G.moveS rfl trivial rfl rfl rfl ?_
      refine G.moveS rfl trivial rfl rfl rfl ?_
      refine G.moveI rfl trivial rfl rfl rfl ?_
      refine G.sub rfl trivial rfl rfl rfl rfl (by omega) ?_
      refine G.fix (d := 54) (v := .int .i64 ((sz - 1 : Nat) : Int)) (by show Value.int .i64 _ = _; congr 1; omega) ?_
      refine G.moveI rfl trivial rfl rfl rfl ?_
      refine G.convInt rfl trivial rfl rfl Try.underlying3 Try.underlying5 rfl ?_
      refine G.fix (d := 56) (v := byteV (UInt8.ofNat r)) (u8_ofN r) ?_
      refine G.moveI rfl trivial rfl rfl rfl ?_
      refine G.moveI rfl trivial rfl rfl rfl ?_
      refine G.add rfl trivial rfl rfl rfl rfl (by omega) ?_
      refine G.convInt rfl trivial rfl rfl Try.underlying3 Try.underlying5 rfl ?_
      refine G.fix (d := 60) (v := byteV (UInt8.ofNat (r + i))) (u8_ofN (r + i)) ?_
      refine G.indexAddr rfl trivial rfl rfl Try.underlying31 I5 rfl rfl (by omega) ?_
      refine G.store (v := byteV (UInt8.ofNat r)) .here rfl trivial rfl I5 rfl rfl rfl (by simp; omega) (bytesV ((List.replicate sz 0).set 0 (UInt8.ofNat r))) (bytesV_set _ 0 _) ?_
      refine G.indexAddr rfl trivial rfl rfl Try.underlying31 I5 rfl rfl (by omega) ?_
      refine G.store (v := byteV (UInt8.ofNat (r + i))) .here rfl trivial rfl I5 rfl rfl rfl (by simp; omega) (bytesV (ringB sz r i)) (by rw [show 0 + ((sz - 1 : Nat) : Int).toNat * 1 = sz - 1 by omega]; exact bytesV_set _ (sz - 1) _) ?_
      refine G.nil ?_
      refine C.seq ?_
      refine C.region ?_
      refine G.moveP rfl trivial rfl rfl rfl ?_
      refine G.moveS rfl trivial rfl rfl rfl ?_
      refine G.less (fun _ h => h.perm2) ?_
      have hus := ringU_size sz r i
      have hbl := ringB_length sz r i
      have hmi : i * (sz + 4) ≤ 1 * (sz + 4) := Nat.mul_le_mul_right _ (by omega)
      refine G.call E12 rfl rfl trivial rfl rfl (wa_append W0 _ bg bs bd base T [] (ringU sz r i) d sg3 sp hw3 (by omega) _ sz sz (ringB sz r i) hbl.symm (by rw [hbl]; omega) (by rw [hus, hbl, size_nil]; omega) (fun _ => Rd.row0 (.app .here))) rfl ?_
      rintro e L2 ⟨sg4, hw4, rfl, rfl⟩
      refine G.less (fun _ h => h.skip1) ?_
      refine G.moveU rfl trivial rfl rfl rfl ?_
      refine G.extractL rfl trivial rfl rfl rfl rfl ?_
      refine G.extractL rfl trivial rfl rfl rfl rfl ?_
      refine G.assignI rfl trivial rfl rfl rfl ?_
      refine G.assignI rfl trivial rfl rfl rfl ?_
      refine G.nil ?_
      refine C.seq ?_
      refine C.region ?_
      refine G.moveI rfl trivial rfl rfl rfl ?_
      refine G.bin rfl trivial rfl rfl rfl rfl rfl ?_
      refine G.nil ?_
      refine C.no rfl (by simp) ?_
      refine C.skip ?_
      refine C.region ?_
      refine G.moveI rfl trivial rfl rfl rfl ?_
      refine G.add rfl trivial rfl rfl rfl rfl (by omega) ?_
      refine G.assignI rfl trivial rfl rfl rfl ?_
      refine G.nil ?_
      exact ⟨2 - (i + 1), by omega, i + 1, sg4, by omega, by rw [ringU_succ]; exact hw4, rfl, rfl, rfl, rfl, rfl, rfl, rfl, rfl, rfl⟩
    · intro hc3
      obtain rfl : i = 2 := by omega
      have hus := ringU_size sz r 2
      change WA bg bs bd base [] [ringB sz r 0, ringB sz r 1] T d sg3 sp at hw3
      change size [ringB sz r 0, ringB sz r 1] = _ at hus
      have hbl := ringB_length sz r 1
      have hlast := ringB_last h2 r 1
      refine C.exit ?_
      refine C.seq ?_
      refine C.seq ?_
      refine C.region ?_
      refine G.moveP rfl trivial rfl rfl rfl ?_
      refine G.moveP rfl trivial rfl rfl rfl ?_
      refine G.call E19 rfl rfl trivial rfl rfl (wa_end W0 [] _ bg bs bd base T [] _ d sg3 sp hw3) rfl ?_
      rintro e L2 ⟨rfl, rfl⟩
      refine G.call E17 rfl rfl trivial rfl rfl (wa_forceAll W0 _ bg bs bd bl base T [] _ d sg3 sp hw3 (by omega) (by omega) (base + size [] + size [ringB sz r 0, ringB sz r 1]) (Nat.le_refl _)) rfl ?_
      rintro e L2 ⟨sg4, sp4, d4, rfl, hw4, rfl⟩
      rw [List.nil_append] at hw4
      obtain ⟨hok4, hln4, hlv4⟩ := hw4.dev
      have hwd4 := hw4.wd []
      refine G.bin rfl trivial rfl rfl rfl rfl rfl ?_
      refine G.nil ?_
      refine C.no rfl (by simp) ?_
      refine C.skip ?_
      refine C.seq ?_
      refine C.region ?_
      refine G.moveP rfl trivial rfl rfl rfl ?_
      refine G.call E20 rfl rfl trivial rfl rfl (crash_spec W0 [_, _] _ bd bl d4 hok4 (by omega) none 0 [] (Nat.le_refl _) (fun _ => Rd.nil)) rfl ?_
      rintro e L2 ⟨bc, bcl, rfl, rfl⟩
      have hlc := crash_live d4 []
      generalize d4.crash [] = dc at *
      refine G.call E16 rfl rfl trivial rfl rfl (wa_open W0 [] _ bc bcl base (T + 1) _ dc hwd4 hlc (by omega) (by omega)) rfl ?_
      rintro e L2 ⟨bg5, bs5, sg5, sp5, v5, ls5, s50, s51, rfl, hw5, hro5, hls5, rfl⟩
      obtain ⟨a1, c1, a2, c2, rfl⟩ := ls_two hls5
      obtain ⟨p5, q5, rfl, hr5⟩ := hro5.form
      obtain ⟨x5, y5, rfl, _⟩ := (hr5 W0 []).some_ (by simp)
      have hr6 := hro5.2 (a2, c2, ringB sz r 1) (by simp)
      simp only at hr6
      obtain ⟨x6, y6, rfl, _⟩ := (hr6 W0 []).some_ (by rw [bytesV_length, hbl]; omega)
      refine G.moveU rfl trivial rfl rfl rfl ?_
      refine G.extractL rfl trivial rfl rfl rfl rfl ?_
      refine G.extractL rfl trivial rfl rfl rfl rfl ?_
      refine G.extractL rfl trivial rfl rfl rfl rfl ?_
      refine G.assignP rfl trivial rfl rfl rfl ?_
      refine G.assignS rfl trivial rfl rfl rfl ?_
      refine G.assignI rfl trivial rfl rfl rfl ?_
      refine G.nil ?_
      refine C.seq ?_
      refine C.region ?_
      refine G.moveI rfl trivial rfl rfl rfl ?_
      refine G.bin rfl trivial rfl rfl rfl rfl rfl ?_
      refine G.moveB rfl trivial rfl rfl rfl ?_
      refine G.no (t := 85) rfl (by simp) ?_
      refine G.moveS rfl ⟨_, rfl, rfl, rfl⟩ rfl rfl rfl ?_
      refine G.lenSlice rfl ⟨_, rfl, rfl, rfl⟩ rfl rfl Try.underlying36 rfl ?_
      refine G.bin rfl ⟨_, rfl, rfl, rfl⟩ rfl rfl rfl rfl rfl ?_
      first | refine G.pickT rfl trivial rfl rfl rfl rfl ?_ | refine G.pickF rfl trivial rfl rfl rfl rfl ?_
      refine G.moveB rfl trivial rfl rfl rfl ?_
      refine G.no (t := 90) rfl (by simp) ?_
      refine G.moveS rfl ⟨_, rfl, rfl, rfl⟩ rfl rfl rfl ?_
      refine G.indexAddr rfl ⟨_, rfl, rfl, rfl⟩ rfl rfl Try.underlying36 I31 rfl rfl (by simp) ?_
      refine G.load rfl ⟨_, rfl, rfl, rfl⟩ rfl rfl Try.underlying31 rfl rfl (row_cell (hr5 _ _) (i := 1) rfl rfl) ?_
      refine G.lenSlice rfl ⟨_, rfl, rfl, rfl⟩ rfl rfl Try.underlying31 rfl ?_
      refine G.moveI rfl ⟨_, rfl, rfl, rfl⟩ rfl rfl rfl ?_
      refine G.bin rfl ⟨_, rfl, rfl, rfl⟩ rfl rfl rfl rfl rfl ?_
      first | refine G.pickT rfl trivial rfl rfl rfl rfl ?_ | refine G.pickF rfl trivial rfl rfl rfl rfl ?_
      refine G.moveB rfl trivial rfl rfl rfl ?_
      refine G.no (t := 98) rfl (by rw [hbl]; simp) ?_
      refine G.moveS rfl ⟨_, rfl, rfl, rfl⟩ rfl rfl rfl ?_
      refine G.indexAddr rfl ⟨_, rfl, rfl, rfl⟩ rfl rfl Try.underlying36 I31 rfl rfl (by simp) ?_
      refine G.load rfl ⟨_, rfl, rfl, rfl⟩ rfl rfl Try.underlying31 rfl rfl (row_cell (hr5 _ _) (i := 1) rfl rfl) ?_
      refine G.moveI rfl ⟨_, rfl, rfl, rfl⟩ rfl rfl rfl ?_
      refine G.sub rfl ⟨_, rfl, rfl, rfl⟩ rfl rfl rfl rfl (by omega) ?_
      refine G.fix (d := 103) (v := .int .i64 ((sz - 1 : Nat) : Int)) (by show Value.int .i64 _ = _; congr 1; omega) ?_
      refine G.indexAddr rfl ⟨_, rfl, rfl, rfl⟩ rfl rfl Try.underlying31 I5 rfl rfl (by rw [hbl]; omega) ?_
      refine G.load rfl ⟨_, rfl, rfl, rfl⟩ rfl rfl Try.underlying5 rfl rfl (byte_cell (Rd.under hr6 [_]) (i := sz - 1) hlast rfl) ?_
      refine G.moveI rfl ⟨_, rfl, rfl, rfl⟩ rfl rfl rfl ?_
      refine G.add rfl ⟨_, rfl, rfl, rfl⟩ rfl rfl rfl rfl (by omega) ?_
      refine G.convInt rfl ⟨_, rfl, rfl, rfl⟩ rfl rfl Try.underlying3 Try.underlying5 rfl ?_
      refine G.fix (d := 108) (v := byteV (UInt8.ofNat (r + 1))) (u8_ofN (r + 1)) ?_
      refine G.bin rfl ⟨_, rfl, rfl, rfl⟩ rfl rfl rfl rfl rfl ?_
      first | refine G.pickT rfl trivial rfl rfl rfl rfl ?_ | refine G.pickF rfl trivial rfl rfl rfl rfl ?_
      refine G.moveB rfl trivial rfl rfl rfl ?_
      refine G.no (t := 111) rfl (by simp) ?_
      refine G.moveP rfl ⟨_, rfl, rfl, rfl⟩ rfl rfl rfl ?_
      refine G.less (fun _ h => Mem.rot [_, _, _, _, _] [_, _, _] h) ?_
      refine G.call E13 rfl rfl ⟨_, rfl, rfl, rfl⟩ rfl rfl (wa_cut W0 _ bg bs bd bl base (T + 1) _ [] d4 sg4 sp4 hw4 (by omega) (by omega)) rfl ?_
      rintro e L2 ⟨sg8, sp8, d8, rfl, hw8, rfl⟩
      rw [size_nil, hus] at hw8
      refine G.bin rfl ⟨_, rfl, rfl, rfl⟩ rfl rfl rfl rfl rfl ?_
      first | refine G.pickT rfl trivial rfl rfl rfl rfl ?_ | refine G.pickF rfl trivial rfl rfl rfl rfl ?_
      refine G.less (fun _ h => Mem.keepN [_, _, _] h) ?_
      refine G.nil ?_
      refine C.no rfl (by simp) ?_
      refine C.skip ?_
      refine C.region ?_
      refine G.moveI rfl trivial rfl rfl rfl ?_
      refine G.add rfl trivial rfl rfl rfl rfl (by omega) ?_
      refine G.assignI rfl trivial rfl rfl rfl ?_
      refine G.nil ?_
      exact ⟨rounds - (r + 1), by omega, r + 1, _, T + 1 + 2, d8, sg8, sp8, by omega, by omega, by omega, hw8, rfl, rfl, rfl, rfl, rfl, rfl, rfl, rfl⟩
  · intro hc2
    refine C.exit ?_
    refine C.seq ?_
    refine C.region ?_
    refine G.assignB rfl trivial rfl rfl rfl ?_
    refine G.nil ?_
    refine C.ret ?_
    -- end c2F
    exact ⟨rfl, _, Res.of (rs := [.tmp 4]) rfl rfl, rfl⟩
theorem ring_walk_no (W0 : World) (a b : Int) (h : ¬ (0 ≤ a ∧ a ≤ 12 ∧ 1 ≤ b ∧ b ≤ 30000)) :
    FnS Try.prog W0 6 #[.int .i64 a, .int .i64 b] [] (fun e _ => e = .returned (.bool true)) := by
  refine FnS.of (args := [.int .i64 a, .int .i64 b]) Try.func6 rfl rfl ?_
  refine C.seq ?_
  refine C.region ?_
  refine G.assignB rfl trivial rfl rfl rfl ?_
  refine G.nil ?_
  refine C.seq ?_
  refine C.region ?_
  refine G.call E9 rfl rfl trivial rfl rfl (beganW_spec W0 _) rfl ?_
  rintro e L2 ⟨rfl, rfl⟩
  refine G.assignB rfl trivial rfl rfl rfl ?_
  refine G.nil ?_
  refine C.seq ?_
  refine C.seq ?_
  refine C.region ?_
  refine G.moveB rfl trivial rfl rfl rfl ?_
  first | refine G.notD rfl trivial rfl rfl rfl ?_ | refine G.not rfl trivial rfl rfl rfl ?_
  refine G.fix (d := 19) (v := .bool false) rfl ?_
  refine G.nil ?_
  refine C.condF rfl ?_
  refine C.skip ?_
  refine C.seq ?_
  refine C.seq ?_
  refine C.region ?_
  refine G.moveI rfl trivial rfl rfl rfl ?_
  refine G.bin rfl trivial rfl rfl rfl rfl rfl ?_
  refine G.moveB rfl trivial rfl rfl rfl ?_
  refine G.fork (t := 22) _ rfl ?_ ?_
  · intro hg22
    refine G.skip rfl rfl rfl rfl rfl rfl ?_
    refine G.skip rfl rfl rfl rfl rfl rfl ?_
    first | refine G.pickT rfl trivial rfl rfl rfl rfl ?_ | refine G.pickF rfl trivial rfl rfl rfl rfl ?_
    refine G.moveB rfl trivial rfl rfl rfl ?_
    refine G.skip rfl rfl rfl rfl rfl rfl ?_
    refine G.skip rfl rfl rfl rfl rfl rfl ?_
    first | refine G.pickT rfl trivial rfl rfl rfl rfl ?_ | refine G.pickF rfl trivial rfl rfl rfl rfl ?_
    refine G.moveB rfl trivial rfl rfl rfl ?_
    refine G.skip rfl rfl rfl rfl rfl rfl ?_
    refine G.skip rfl rfl rfl rfl rfl rfl ?_
    first | refine G.pickT rfl trivial rfl rfl rfl rfl ?_ | refine G.pickF rfl trivial rfl rfl rfl rfl ?_
    refine G.nil ?_
    refine C.condT rfl ?_
    refine C.seq ?_
    refine C.region ?_
    refine G.assignB rfl trivial rfl rfl rfl ?_
    refine G.nil ?_
    refine C.ret ?_
    -- end g22T
    exact ⟨rfl, _, Res.of (rs := [.tmp 4]) rfl rfl, rfl⟩
  · intro hg22
    refine G.moveI rfl ⟨_, rfl, rfl, rfl⟩ rfl rfl rfl ?_
    refine G.bin rfl ⟨_, rfl, rfl, rfl⟩ rfl rfl rfl rfl rfl ?_
    first | refine G.pickT rfl trivial rfl rfl rfl rfl ?_ | refine G.pickF rfl trivial rfl rfl rfl rfl ?_
    refine G.moveB rfl trivial rfl rfl rfl ?_
    refine G.fork (t := 26) _ rfl ?_ ?_
    · intro hg26
      refine G.skip rfl rfl rfl rfl rfl rfl ?_
      refine G.skip rfl rfl rfl rfl rfl rfl ?_
      first | refine G.pickT rfl trivial rfl rfl rfl rfl ?_ | refine G.pickF rfl trivial rfl rfl rfl rfl ?_
      refine G.moveB rfl trivial rfl rfl rfl ?_
      refine G.skip rfl rfl rfl rfl rfl rfl ?_
      refine G.skip rfl rfl rfl rfl rfl rfl ?_
      first | refine G.pickT rfl trivial rfl rfl rfl rfl ?_ | refine G.pickF rfl trivial rfl rfl rfl rfl ?_
      refine G.nil ?_
      refine C.condT rfl ?_
      refine C.seq ?_
      refine C.region ?_
      refine G.assignB rfl trivial rfl rfl rfl ?_
      refine G.nil ?_
      refine C.ret ?_
      -- end g22Fg26T
      exact ⟨rfl, _, Res.of (rs := [.tmp 4]) rfl rfl, rfl⟩
    · intro hg26
      refine G.moveI rfl ⟨_, rfl, rfl, rfl⟩ rfl rfl rfl ?_
      refine G.bin rfl ⟨_, rfl, rfl, rfl⟩ rfl rfl rfl rfl rfl ?_
      first | refine G.pickT rfl trivial rfl rfl rfl rfl ?_ | refine G.pickF rfl trivial rfl rfl rfl rfl ?_
      refine G.moveB rfl trivial rfl rfl rfl ?_
      refine G.fork (t := 30) _ rfl ?_ ?_
      · intro hg30
        refine G.skip rfl rfl rfl rfl rfl rfl ?_
        refine G.skip rfl rfl rfl rfl rfl rfl ?_
        first | refine G.pickT rfl trivial rfl rfl rfl rfl ?_ | refine G.pickF rfl trivial rfl rfl rfl rfl ?_
        refine G.nil ?_
        refine C.condT rfl ?_
        refine C.seq ?_
        refine C.region ?_
        refine G.assignB rfl trivial rfl rfl rfl ?_
        refine G.nil ?_
        refine C.ret ?_
        -- end g22Fg26Fg30T
        exact ⟨rfl, _, Res.of (rs := [.tmp 4]) rfl rfl, rfl⟩
      · intro hg30
        refine G.moveI rfl ⟨_, rfl, rfl, rfl⟩ rfl rfl rfl ?_
        refine G.bin rfl ⟨_, rfl, rfl, rfl⟩ rfl rfl rfl rfl rfl ?_
        first | refine G.pickT rfl trivial rfl rfl rfl rfl ?_ | refine G.pickF rfl trivial rfl rfl rfl rfl ?_
        refine G.nil ?_
        refine C.yes rfl (by omega) ?_
        refine C.seq ?_
        refine C.region ?_
        refine G.assignB rfl trivial rfl rfl rfl ?_
        refine G.nil ?_
        refine C.ret ?_
        -- end g22Fg26Fg30F
        exact ⟨rfl, _, Res.of (rs := [.tmp 4]) rfl rfl, rfl⟩
end Go.Proofs.Ytjfjmhmfhkdcbaa
