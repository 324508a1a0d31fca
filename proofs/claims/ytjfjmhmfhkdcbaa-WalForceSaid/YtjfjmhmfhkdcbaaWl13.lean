/-
  The laws of the log: cut and written again.
-/
import Derived.Test.YtjfjmhmfhkdcbaaWl11
namespace Go.Proofs.Ytjfjmhmfhkdcbaa
open Go Go.SL Go.RowKit

def cutsU (r k : Nat) : List (List UInt8) := (List.range k).map fun i => [UInt8.ofNat r, UInt8.ofNat i, 5]
theorem cutsU_succ (r k : Nat) : cutsU r (k + 1) = cutsU r k ++ [[UInt8.ofNat r, UInt8.ofNat k, 5]] := by simp [cutsU, List.range_succ]
theorem cutsU_length (r k : Nat) : (cutsU r k).length = k := by simp [cutsU]
theorem cutsU_size (r : Nat) : ∀ k, size (cutsU r k) = 7 * k
  | 0 => rfl
  | k + 1 => by rw [cutsU_succ, size_append, cutsU_size r k, size_cons, size_nil]; simp; omega
theorem cutsU_at (r : Nat) {k i : Nat} (h : i < k) : (cutsU r k)[i]? = some [UInt8.ofNat r, UInt8.ofNat i, 5] := by simp [cutsU, h]
theorem ls_at {ls : LsB} {fs : List (List UInt8)} (h : ls.map (·.2.2) = fs) {i : Nat} {b : List UInt8} (hb : fs[i]? = some b) : ∃ a c, ls[i]? = some (a, c, b) := by
  rw [← h, List.getElem?_map] at hb
  cases hx : ls[i]? with
  | none => rw [hx] at hb; cases hb
  | some x =>
    rw [hx] at hb
    simp at hb
    obtain ⟨a, c, y⟩ := x
    simp at hb
    subst hb
    exact ⟨a, c, rfl⟩
theorem byte_cell {W0 : World} {L : List Seg} {p q : Nat} {xs : List UInt8} (h : Rd W0 L (some ⟨p, q, none⟩) (bytesV xs)) {i : Nat} {c : UInt8} (hi : xs[i]? = some c) {k : Int} (hk : k = (i : Int)) : ∀ w, Mem W0 w L → w.cell? ⟨p, q + k.toNat * 1, none⟩ = some (byteV c) := fun w hm => by
  have hlt : i < xs.length := by
    rcases Nat.lt_or_ge i xs.length with h | h
    · exact h
    · rw [List.getElem?_eq_none h] at hi; cases hi
  have h1 := Rd.cell_at (j := i) h (by simpa using hlt) w hm
  rw [hk, show q + ((i : Nat) : Int).toNat * 1 = q + i by omega, h1, bytesV, List.getElem?_map, hi]
  rfl
theorem cuts_walk (W0 : World) (rounds per : Nat) (h1 : rounds ≤ 12) (h2 : per ≤ 8) :
    FnS Try.prog W0 8 #[.int .i64 (rounds : Int), .int .i64 (per : Int)] [] (fun e _ => e = .returned (.bool true)) := by
  obtain ⟨hok0, hlv0, hln0⟩ := newW
  refine FnS.of (args := [.int .i64 (rounds : Int), .int .i64 (per : Int)]) Try.func8 rfl rfl ?_
  refine C.seq ?_
  refine C.region ?_
  refine G.assignB rfl trivial rfl rfl rfl ?_
  refine G.nil ?_
  refine C.seq ?_
  refine C.region ?_
  refine G.call E9 rfl rfl trivial rfl rfl (beganW_spec W0 _) rfl ?_
  rintro e L2 ⟨rfl, rfl⟩
  refine G.assignB rfl trivial rfl rfl rfl ?_
  refine G.nil ?_
  refine C.seq ?_
  refine C.seq ?_
  refine C.region ?_
  refine G.moveB rfl trivial rfl rfl rfl ?_
  first | refine G.notD rfl trivial rfl rfl rfl ?_ | refine G.not rfl trivial rfl rfl rfl ?_
  refine G.fix (d := 19) (v := .bool false) rfl ?_
  refine G.nil ?_
  refine C.condF rfl ?_
  refine C.skip ?_
  refine C.seq ?_
  refine C.seq ?_
  refine C.region ?_
  refine G.moveI rfl trivial rfl rfl rfl ?_
  refine G.bin rfl trivial rfl rfl rfl rfl rfl ?_
  refine G.moveB rfl trivial rfl rfl rfl ?_
  refine G.no (t := 22) rfl (by omega) ?_
  refine G.moveI rfl ⟨_, rfl, rfl, rfl⟩ rfl rfl rfl ?_
  refine G.bin rfl ⟨_, rfl, rfl, rfl⟩ rfl rfl rfl rfl rfl ?_
  first | refine G.pickT rfl trivial rfl rfl rfl rfl ?_ | refine G.pickF rfl trivial rfl rfl rfl rfl ?_
  refine G.moveB rfl trivial rfl rfl rfl ?_
  refine G.no (t := 26) rfl (by omega) ?_
  refine G.moveI rfl ⟨_, rfl, rfl, rfl⟩ rfl rfl rfl ?_
  refine G.bin rfl ⟨_, rfl, rfl, rfl⟩ rfl rfl rfl rfl rfl ?_
  first | refine G.pickT rfl trivial rfl rfl rfl rfl ?_ | refine G.pickF rfl trivial rfl rfl rfl rfl ?_
  refine G.moveB rfl trivial rfl rfl rfl ?_
  refine G.no (t := 30) rfl (by omega) ?_
  refine G.moveI rfl ⟨_, rfl, rfl, rfl⟩ rfl rfl rfl ?_
  refine G.bin rfl ⟨_, rfl, rfl, rfl⟩ rfl rfl rfl rfl rfl ?_
  first | refine G.pickT rfl trivial rfl rfl rfl rfl ?_ | refine G.pickF rfl trivial rfl rfl rfl rfl ?_
  refine G.nil ?_
  refine C.no rfl (by omega) ?_
  refine C.skip ?_
  refine C.seq ?_
  refine C.region ?_
  refine G.call E11 rfl rfl trivial rfl rfl (new_spec W0 _ 1410) rfl ?_
  rintro e L2 ⟨bd, bl, rfl, rfl⟩
  rw [show clampN 1410 = 1410 from rfl]
  generalize newDv 1410 = d0 at *
  refine G.assignP rfl trivial rfl rfl rfl ?_
  refine G.nil ?_
  refine C.seq ?_
  refine C.region ?_
  refine G.moveP rfl trivial rfl rfl rfl ?_
  refine G.call E10 rfl rfl trivial rfl rfl (wa_make W0 [] _ bd bl d0 hok0 hlv0 hln0) rfl ?_
  rintro e L2 ⟨bg, bs, sg, sp, d1, rfl, hw1, rfl⟩
  refine G.moveU rfl trivial rfl rfl rfl ?_
  refine G.extractL rfl trivial rfl rfl rfl rfl ?_
  refine G.extractL rfl trivial rfl rfl rfl rfl ?_
  refine G.assignP rfl trivial rfl rfl rfl ?_
  refine G.assignI rfl trivial rfl rfl rfl ?_
  refine G.nil ?_
  refine C.seq ?_
  refine C.seq ?_
  refine C.region ?_
  refine G.assignI rfl trivial rfl rfl rfl ?_
  refine G.nil ?_
  refine C.block ?_
  refine C.loop (fun m F D' L' => ∃ (r base T : Nat) (fs : List (List UInt8)) (d : Dv) (sg sp : Seg), r ≤ rounds ∧ base + size fs ≤ 56 * r ∧ T ≤ 3 * r + 1 ∧ WA bg bs bd base fs [] T d sg sp ∧ m = rounds - r ∧ F 9 = .int .i64 (r : Int) ∧ F 7 = ptr bg ∧ F 6 = ptr bd ∧ F 0 = .int .i64 (rounds : Int) ∧ F 1 = .int .i64 (per : Int) ∧ D' = [] ∧ sg :: sp :: devSeg bd bl d :: [] = L') ⟨_, ⟨0, 0, 1, [], d1, sg, sp, by omega, by simp [size_nil], by omega, hw1, rfl, rfl, rfl, rfl, rfl, rfl, rfl, rfl⟩⟩ ?_
  rintro m F D' L' ⟨r, base, T, fs, d, sg, sp, hr, hbase, hT, hw, rfl, h9, h7, h6, h0', h1', rfl, rfl⟩
  refine C.fix (d := 9) h9 ?_
  refine C.fix (d := 7) h7 ?_
  refine C.fix (d := 6) h6 ?_
  refine C.fix (d := 0) h0' ?_
  refine C.fix (d := 1) h1' ?_
  refine C.seq ?_
  refine C.seq ?_
  refine C.region ?_
  refine G.moveI rfl trivial rfl rfl rfl ?_
  refine G.moveI rfl trivial rfl rfl rfl ?_
  refine G.bin rfl trivial rfl rfl rfl rfl rfl ?_
  refine G.nil ?_
  refine C.cond _ rfl ?_ ?_
  · intro hc2
    refine C.skip ?_
    refine C.seq ?_
    refine C.block ?_
    refine C.seq ?_
    refine C.seq ?_
    refine C.region ?_
    refine G.moveP rfl trivial rfl rfl rfl ?_
    refine G.call E13 rfl rfl trivial rfl rfl (wa_cut W0 _ bg bs bd bl base T fs [] d sg sp hw (by omega) (by omega)) rfl ?_
    rintro e L2 ⟨sg2, sp2, d2, rfl, hw2, rfl⟩
    rw [size_nil] at hw2
    obtain ⟨B, hB⟩ : ∃ B, B = base + size fs + 0 := ⟨_, rfl⟩
    rw [← hB] at hw2
    refine G.bin rfl trivial rfl rfl rfl rfl rfl ?_
    refine G.nil ?_
    refine C.no rfl (by simp) ?_
    refine C.skip ?_
    refine C.seq ?_
    refine C.seq ?_
    refine C.region ?_
    refine G.assignI rfl trivial rfl rfl rfl ?_
    refine G.nil ?_
    refine C.block ?_
    refine C.loop (fun m F D' L' => ∃ (i : Nat) (sg : Seg), i ≤ per ∧ WA bg bs bd B [] (cutsU r i) (T + 2) d2 sg sp2 ∧ m = per - i ∧ F 10 = .int .i64 (i : Int) ∧ F 9 = .int .i64 (r : Int) ∧ F 7 = ptr bg ∧ F 6 = ptr bd ∧ F 0 = .int .i64 (rounds : Int) ∧ F 1 = .int .i64 (per : Int) ∧ D' = [] ∧ sg :: sp2 :: devSeg bd bl d2 :: [] = L') ⟨_, ⟨0, sg2, by omega, hw2, rfl, rfl, rfl, rfl, rfl, rfl, rfl, rfl, rfl⟩⟩ ?_
    rintro m F D' L' ⟨i, sg3, hi, hw3, rfl, h10, h9, h7, h6, h0', h1', rfl, rfl⟩
    refine C.fix (d := 10) h10 ?_
    refine C.fix (d := 9) h9 ?_
    refine C.fix (d := 7) h7 ?_
    refine C.fix (d := 6) h6 ?_
    refine C.fix (d := 0) h0' ?_
    refine C.fix (d := 1) h1' ?_
    refine C.seq ?_
    refine C.seq ?_
    refine C.region ?_
    refine G.moveI rfl trivial rfl rfl rfl ?_
    refine G.moveI rfl trivial rfl rfl rfl ?_
    refine G.bin rfl trivial rfl rfl rfl rfl rfl ?_
    refine G.nil ?_
    refine C.cond _ rfl ?_ ?_
    · intro hc4
      refine C.skip ?_
      refine C.seq ?_
      refine C.block ?_
      refine C.seq ?_
      refine C.region ?_
      refine G.moveP rfl trivial rfl rfl rfl ?_
      refine G.moveI rfl trivial rfl rfl rfl ?_
      refine G.convInt rfl trivial rfl rfl Try.underlying3 Try.underlying5 rfl ?_
      refine G.fix (d := 56) (v := byteV (UInt8.ofNat r)) (u8_ofN r) ?_
      refine G.moveI rfl trivial rfl rfl rfl ?_
      refine G.convInt rfl trivial rfl rfl Try.underlying3 Try.underlying5 rfl ?_
      refine G.fix (d := 58) (v := byteV (UInt8.ofNat i)) (u8_ofN i) ?_
      refine G.buildSliceL (cs := [byteV (UInt8.ofNat r), byteV (UInt8.ofNat i), .int .u8 5]) (zs := [(.int .u8 0), (.int .u8 0), (.int .u8 0)]) rfl trivial rfl rfl Try.underlying31 I5 rfl (by kernel_rfl) rfl rfl ?_
      intro b59
      refine G.less (fun _ h => h.perm2) ?_
      have hcs := cutsU_size r i
      refine G.call E12 rfl rfl trivial rfl rfl (wa_append W0 _ bg bs bd B (T + 2) [] (cutsU r i) d2 sg3 sp2 hw3 (by omega) _ 3 3 [UInt8.ofNat r, UInt8.ofNat i, 5] rfl (by simp) (by rw [hcs, size_nil]; simp; omega) (fun _ => Rd.row0 (cs := bytesV [UInt8.ofNat r, UInt8.ofNat i, 5]) (.app .here))) rfl ?_
      rintro e L2 ⟨sg4, hw4, rfl, rfl⟩
      refine G.less (fun _ h => h.skip1) ?_
      refine G.moveU rfl trivial rfl rfl rfl ?_
      refine G.extractL rfl trivial rfl rfl rfl rfl ?_
      refine G.extractL rfl trivial rfl rfl rfl rfl ?_
      refine G.assignI rfl trivial rfl rfl rfl ?_
      refine G.assignI rfl trivial rfl rfl rfl ?_
      refine G.nil ?_
      refine C.seq ?_
      refine C.region ?_
      refine G.moveI rfl trivial rfl rfl rfl ?_
      refine G.bin rfl trivial rfl rfl rfl rfl rfl ?_
      refine G.nil ?_
      refine C.no rfl (by simp) ?_
      refine C.skip ?_
      refine C.region ?_
      refine G.moveI rfl trivial rfl rfl rfl ?_
      refine G.add rfl trivial rfl rfl rfl rfl (by omega) ?_
      refine G.assignI rfl trivial rfl rfl rfl ?_
      refine G.nil ?_
      exact ⟨per - (i + 1), by omega, i + 1, sg4, by omega, by rw [cutsU_succ]; exact hw4, rfl, rfl, rfl, rfl, rfl, rfl, rfl, rfl, rfl⟩
    · intro hc4
      obtain rfl : i = per := by omega
      have hcs := cutsU_size r i
      refine C.exit ?_
      refine C.seq ?_
      refine C.seq ?_
      refine C.region ?_
      refine G.moveP rfl trivial rfl rfl rfl ?_
      refine G.moveP rfl trivial rfl rfl rfl ?_
      refine G.call E19 rfl rfl trivial rfl rfl (wa_end W0 [] _ bg bs bd B (T + 2) [] (cutsU r i) d2 sg3 sp2 hw3) rfl ?_
      rintro e L2 ⟨rfl, rfl⟩
      refine G.call E17 rfl rfl trivial rfl rfl (wa_forceAll W0 _ bg bs bd bl B (T + 2) [] (cutsU r i) d2 sg3 sp2 hw3 (by omega) (by omega) (B + size [] + size (cutsU r i)) (Nat.le_refl _)) rfl ?_
      rintro e L2 ⟨sg4, sp4, d4, rfl, hw4, rfl⟩
      rw [List.nil_append] at hw4
      obtain ⟨hok4, hln4, hlv4⟩ := hw4.dev
      have hwd4 := hw4.wd []
      refine G.bin rfl trivial rfl rfl rfl rfl rfl ?_
      refine G.nil ?_
      refine C.no rfl (by simp) ?_
      refine C.skip ?_
      refine C.seq ?_
      refine C.region ?_
      refine G.moveP rfl trivial rfl rfl rfl ?_
      refine G.call E20 rfl rfl trivial rfl rfl (crash_spec W0 [_, _] _ bd bl d4 hok4 (by omega) none 0 [] (Nat.le_refl _) (fun _ => Rd.nil)) rfl ?_
      rintro e L2 ⟨bc, bcl, rfl, rfl⟩
      have hlc := crash_live d4 []
      generalize d4.crash [] = dc at *
      refine G.call E16 rfl rfl trivial rfl rfl (wa_open W0 [] _ bc bcl B (T + 2 + 1) (cutsU r i) dc hwd4 hlc (by omega) (by omega)) rfl ?_
      rintro e L2 ⟨bg5, bs5, sg5, sp5, v5, ls5, s50, s51, rfl, hw5, hro5, hls5, rfl⟩
      obtain ⟨p5, q5, rfl, hr5⟩ := hro5.form
      have hl5 : ls5.length = i := by rw [ls_length hls5, cutsU_length]
      refine G.moveU rfl trivial rfl rfl rfl ?_
      refine G.extractL rfl trivial rfl rfl rfl rfl ?_
      refine G.extractL rfl trivial rfl rfl rfl rfl ?_
      refine G.extractL rfl trivial rfl rfl rfl rfl ?_
      refine G.assignP rfl trivial rfl rfl rfl ?_
      refine G.assignS rfl trivial rfl rfl rfl ?_
      refine G.assignI rfl trivial rfl rfl rfl ?_
      refine G.nil ?_
      refine C.seq ?_
      refine C.seq ?_
      refine C.region ?_
      refine G.moveI rfl trivial rfl rfl rfl ?_
      refine G.bin rfl trivial rfl rfl rfl rfl rfl ?_
      refine G.moveB rfl trivial rfl rfl rfl ?_
      refine G.no (t := 79) rfl (by simp) ?_
      refine G.moveS rfl ⟨_, rfl, rfl, rfl⟩ rfl rfl rfl ?_
      refine G.lenSlice rfl ⟨_, rfl, rfl, rfl⟩ rfl rfl Try.underlying36 rfl ?_
      refine G.moveI rfl ⟨_, rfl, rfl, rfl⟩ rfl rfl rfl ?_
      refine G.bin rfl ⟨_, rfl, rfl, rfl⟩ rfl rfl rfl rfl rfl ?_
      first | refine G.pickT rfl trivial rfl rfl rfl rfl ?_ | refine G.pickF rfl trivial rfl rfl rfl rfl ?_
      refine G.moveB rfl trivial rfl rfl rfl ?_
      refine G.no (t := 85) rfl (by omega) ?_
      refine G.moveP rfl ⟨_, rfl, rfl, rfl⟩ rfl rfl rfl ?_
      refine G.call E15 rfl rfl ⟨_, rfl, rfl, rfl⟩ rfl rfl (wa_base W0 [_, _] _ bg5 bs5 bc _ _ _ _ dc sg5 sp5 hw5) rfl ?_
      rintro e L2 ⟨rfl, rfl⟩
      refine G.moveP rfl ⟨_, rfl, rfl, rfl⟩ rfl rfl rfl ?_
      refine G.call E15 rfl rfl ⟨_, rfl, rfl, rfl⟩ rfl rfl (wa_base W0 [_, _, _, _, _] _ bg bs bd _ _ _ _ d4 sg4 sp4 hw4) rfl ?_
      rintro e L2 ⟨rfl, rfl⟩
      refine G.bin rfl ⟨_, rfl, rfl, rfl⟩ rfl rfl rfl rfl rfl ?_
      first | refine G.pickT rfl trivial rfl rfl rfl rfl ?_ | refine G.pickF rfl trivial rfl rfl rfl rfl ?_
      refine G.moveB rfl trivial rfl rfl rfl ?_
      refine G.no (t := 92) rfl (by omega) ?_
      refine G.moveP rfl ⟨_, rfl, rfl, rfl⟩ rfl rfl rfl ?_
      refine G.call E19 rfl rfl ⟨_, rfl, rfl, rfl⟩ rfl rfl (wa_end W0 [_, _] _ bg5 bs5 bc _ _ _ _ dc sg5 sp5 hw5) rfl ?_
      rintro e L2 ⟨rfl, rfl⟩
      refine G.moveP rfl ⟨_, rfl, rfl, rfl⟩ rfl rfl rfl ?_
      refine G.call E19 rfl rfl ⟨_, rfl, rfl, rfl⟩ rfl rfl (wa_end W0 [_, _, _, _, _] _ bg bs bd _ _ _ _ d4 sg4 sp4 hw4) rfl ?_
      rintro e L2 ⟨rfl, rfl⟩
      refine G.bin rfl ⟨_, rfl, rfl, rfl⟩ rfl rfl rfl rfl rfl ?_
      first | refine G.pickT rfl trivial rfl rfl rfl rfl ?_ | refine G.pickF rfl trivial rfl rfl rfl rfl ?_
      refine G.moveB rfl trivial rfl rfl rfl ?_
      refine G.no (t := 99) rfl (by omega) ?_
      refine G.moveP rfl ⟨_, rfl, rfl, rfl⟩ rfl rfl rfl ?_
      refine G.call E19 rfl rfl ⟨_, rfl, rfl, rfl⟩ rfl rfl (wa_end W0 [_, _, _, _, _] _ bg bs bd _ _ _ _ d4 sg4 sp4 hw4) rfl ?_
      rintro e L2 ⟨rfl, rfl⟩
      rw [hcs, size_nil]
      refine G.moveP rfl ⟨_, rfl, rfl, rfl⟩ rfl rfl rfl ?_
      refine G.call E15 rfl rfl ⟨_, rfl, rfl, rfl⟩ rfl rfl (wa_base W0 [_, _, _, _, _] _ bg bs bd _ _ _ _ d4 sg4 sp4 hw4) rfl ?_
      rintro e L2 ⟨rfl, rfl⟩
      refine G.sub rfl ⟨_, rfl, rfl, rfl⟩ rfl rfl rfl rfl (by omega) ?_
      refine G.moveI rfl ⟨_, rfl, rfl, rfl⟩ rfl rfl rfl ?_
      refine G.mul rfl ⟨_, rfl, rfl, rfl⟩ rfl rfl rfl rfl (by omega) ?_
      refine G.bin rfl ⟨_, rfl, rfl, rfl⟩ rfl rfl rfl rfl rfl ?_
      first | refine G.pickT rfl trivial rfl rfl rfl rfl ?_ | refine G.pickF rfl trivial rfl rfl rfl rfl ?_
      refine G.nil ?_
      refine C.no rfl (by omega) ?_
      refine C.skip ?_
      refine C.seq ?_
      refine C.region ?_
      refine G.assignI rfl trivial rfl rfl rfl ?_
      refine G.nil ?_
      refine C.block ?_
      refine C.loop (fun m F D' L' => ∃ j : Nat, j ≤ i ∧ m = i - j ∧ F 16 = .int .i64 (j : Int) ∧ F 14 = .slice p5 ls5.length q5 ∧ F 9 = .int .i64 (r : Int) ∧ F 7 = ptr bg ∧ F 6 = ptr bd ∧ F 0 = .int .i64 (rounds : Int) ∧ F 1 = .int .i64 (i : Int) ∧ D' = [] ∧ s50 :: s51 :: sg5 :: sp5 :: devSeg bc bcl dc :: sg4 :: sp4 :: devSeg bd bl d4 :: [] = L') ⟨_, ⟨0, by omega, rfl, rfl, rfl, rfl, rfl, rfl, rfl, rfl, rfl, rfl⟩⟩ ?_
      rintro m F D' L' ⟨j, hj, rfl, h16, h14, h9, h7, h6, h0', h1', rfl, rfl⟩
      refine C.fix (d := 16) h16 ?_
      refine C.fix (d := 14) h14 ?_
      refine C.fix (d := 9) h9 ?_
      refine C.fix (d := 7) h7 ?_
      refine C.fix (d := 6) h6 ?_
      refine C.fix (d := 0) h0' ?_
      refine C.fix (d := 1) h1' ?_
      refine C.seq ?_
      refine C.seq ?_
      refine C.region ?_
      refine G.moveI rfl trivial rfl rfl rfl ?_
      refine G.moveI rfl trivial rfl rfl rfl ?_
      refine G.bin rfl trivial rfl rfl rfl rfl rfl ?_
      refine G.nil ?_
      refine C.cond _ rfl ?_ ?_
      · intro hc8
        have hlt : j < i := by omega
        obtain ⟨x5, y5, hp5, _⟩ := (hr5 W0 []).some_ (by simp; omega)
        obtain ⟨a6, c6, hx6⟩ := ls_at hls5 (cutsU_at r hlt)
        have hm6 := List.mem_of_getElem? hx6
        obtain ⟨x6, y6, hp6, _⟩ := (hro5.2 _ hm6 W0 []).some_ (by simp)
        have hr6 := hro5.2 _ hm6
        simp only at hp6 hr6
        rw [hp6] at hx6 hr6
        have hr7 : ∀ W0 L, Rd W0 (s50 :: L) (some ⟨x5, y5, none⟩) (ls5.map hdrB) := hp5 ▸ hr5
        refine C.fix (d := 14) (v := .slice (some ⟨x5, y5, none⟩) ls5.length q5) (by rw [← hp5]; rfl) ?_
        refine C.skip ?_
        refine C.seq ?_
        refine C.block ?_
        refine C.seq ?_
        refine C.region ?_
        refine G.moveS rfl trivial rfl rfl rfl ?_
        refine G.moveI rfl trivial rfl rfl rfl ?_
        refine G.indexAddr rfl trivial rfl rfl Try.underlying36 I31 rfl rfl (by omega) ?_
        refine G.load rfl trivial rfl rfl Try.underlying31 rfl rfl (row_cell (hr7 _ _) (i := j) hx6 rfl) ?_
        refine G.lenSlice rfl trivial rfl rfl Try.underlying31 rfl ?_
        refine G.bin rfl trivial rfl rfl rfl rfl rfl ?_
        refine G.moveB rfl trivial rfl rfl rfl ?_
        refine G.no (t := 120) rfl (by simp) ?_
        refine G.moveS rfl ⟨_, rfl, rfl, rfl⟩ rfl rfl rfl ?_
        refine G.moveI rfl ⟨_, rfl, rfl, rfl⟩ rfl rfl rfl ?_
        refine G.indexAddr rfl ⟨_, rfl, rfl, rfl⟩ rfl rfl Try.underlying36 I31 rfl rfl (by omega) ?_
        refine G.load rfl ⟨_, rfl, rfl, rfl⟩ rfl rfl Try.underlying31 rfl rfl (row_cell (hr7 _ _) (i := j) hx6 rfl) ?_
        refine G.indexAddr rfl ⟨_, rfl, rfl, rfl⟩ rfl rfl Try.underlying31 I5 rfl rfl (by simp) ?_
        refine G.load rfl ⟨_, rfl, rfl, rfl⟩ rfl rfl Try.underlying5 rfl rfl (byte_cell (Rd.under hr6 [_]) (i := 0) rfl rfl) ?_
        refine G.moveI rfl ⟨_, rfl, rfl, rfl⟩ rfl rfl rfl ?_
        refine G.convInt rfl ⟨_, rfl, rfl, rfl⟩ rfl rfl Try.underlying3 Try.underlying5 rfl ?_
        refine G.fix (d := 128) (v := byteV (UInt8.ofNat r)) (u8_ofN r) ?_
        refine G.bin rfl ⟨_, rfl, rfl, rfl⟩ rfl rfl rfl rfl rfl ?_
        first | refine G.pickT rfl trivial rfl rfl rfl rfl ?_ | refine G.pickF rfl trivial rfl rfl rfl rfl ?_
        refine G.moveB rfl trivial rfl rfl rfl ?_
        refine G.no (t := 131) rfl (by simp) ?_
        refine G.moveS rfl ⟨_, rfl, rfl, rfl⟩ rfl rfl rfl ?_
        refine G.moveI rfl ⟨_, rfl, rfl, rfl⟩ rfl rfl rfl ?_
        refine G.indexAddr rfl ⟨_, rfl, rfl, rfl⟩ rfl rfl Try.underlying36 I31 rfl rfl (by omega) ?_
        refine G.load rfl ⟨_, rfl, rfl, rfl⟩ rfl rfl Try.underlying31 rfl rfl (row_cell (hr7 _ _) (i := j) hx6 rfl) ?_
        refine G.indexAddr rfl ⟨_, rfl, rfl, rfl⟩ rfl rfl Try.underlying31 I5 rfl rfl (by simp) ?_
        refine G.load rfl ⟨_, rfl, rfl, rfl⟩ rfl rfl Try.underlying5 rfl rfl (byte_cell (Rd.under hr6 [_]) (i := 1) rfl rfl) ?_
        refine G.moveI rfl ⟨_, rfl, rfl, rfl⟩ rfl rfl rfl ?_
        refine G.convInt rfl ⟨_, rfl, rfl, rfl⟩ rfl rfl Try.underlying3 Try.underlying5 rfl ?_
        refine G.fix (d := 139) (v := byteV (UInt8.ofNat j)) (u8_ofN j) ?_
        refine G.bin rfl ⟨_, rfl, rfl, rfl⟩ rfl rfl rfl rfl rfl ?_
        first | refine G.pickT rfl trivial rfl rfl rfl rfl ?_ | refine G.pickF rfl trivial rfl rfl rfl rfl ?_
        refine G.nil ?_
        refine C.no rfl (by simp) ?_
        refine C.skip ?_
        refine C.region ?_
        refine G.moveI rfl trivial rfl rfl rfl ?_
        refine G.add rfl trivial rfl rfl rfl rfl (by omega) ?_
        refine G.assignI rfl trivial rfl rfl rfl ?_
        refine G.nil ?_
        exact ⟨i - (j + 1), by omega, j + 1, by omega, rfl, rfl, by rw [hp5]; rfl, rfl, rfl, rfl, rfl, rfl, rfl, rfl⟩
      · intro hc8
        refine C.less (fun _ h => Mem.dropN [_, _, _, _, _] h) ?_
        refine C.exit ?_
        refine C.region ?_
        refine G.moveI rfl trivial rfl rfl rfl ?_
        refine G.add rfl trivial rfl rfl rfl rfl (by omega) ?_
        refine G.assignI rfl trivial rfl rfl rfl ?_
        refine G.nil ?_
        exact ⟨rounds - (r + 1), by omega, r + 1, B, T + 2 + 1, cutsU r i, d4, sg4, sp4, by omega, by omega, by omega, hw4, rfl, rfl, rfl, rfl, rfl, rfl, rfl, rfl⟩
  · intro hc2
    refine C.exit ?_
    refine C.seq ?_
    refine C.region ?_
    refine G.assignB rfl trivial rfl rfl rfl ?_
    refine G.nil ?_
    refine C.ret ?_
    -- end c2F
    exact ⟨rfl, _, Res.of (rs := [.tmp 4]) rfl rfl, rfl⟩
theorem cuts_walk_no (W0 : World) (a b : Int) (h : ¬ (0 ≤ a ∧ a ≤ 12 ∧ 0 ≤ b ∧ b ≤ 8)) :
    FnS Try.prog W0 8 #[.int .i64 a, .int .i64 b] [] (fun e _ => e = .returned (.bool true)) := by
  refine FnS.of (args := [.int .i64 a, .int .i64 b]) Try.func8 rfl rfl ?_
  refine C.seq ?_
  refine C.region ?_
  refine G.assignB rfl trivial rfl rfl rfl ?_
  refine G.nil ?_
  refine C.seq ?_
  refine C.region ?_
  refine G.call E9 rfl rfl trivial rfl rfl (beganW_spec W0 _) rfl ?_
  rintro e L2 ⟨rfl, rfl⟩
  refine G.assignB rfl trivial rfl rfl rfl ?_
  refine G.nil ?_
  refine C.seq ?_
  refine C.seq ?_
  refine C.region ?_
  refine G.moveB rfl trivial rfl rfl rfl ?_
  first | refine G.notD rfl trivial rfl rfl rfl ?_ | refine G.not rfl trivial rfl rfl rfl ?_
  refine G.fix (d := 19) (v := .bool false) rfl ?_
  refine G.nil ?_
  refine C.condF rfl ?_
  refine C.skip ?_
  refine C.seq ?_
  refine C.seq ?_
  refine C.region ?_
  refine G.moveI rfl trivial rfl rfl rfl ?_
  refine G.bin rfl trivial rfl rfl rfl rfl rfl ?_
  refine G.moveB rfl trivial rfl rfl rfl ?_
  refine G.fork (t := 22) _ rfl ?_ ?_
  · intro hg22
    refine G.skip rfl rfl rfl rfl rfl rfl ?_
    refine G.skip rfl rfl rfl rfl rfl rfl ?_
    first | refine G.pickT rfl trivial rfl rfl rfl rfl ?_ | refine G.pickF rfl trivial rfl rfl rfl rfl ?_
    refine G.moveB rfl trivial rfl rfl rfl ?_
    refine G.skip rfl rfl rfl rfl rfl rfl ?_
    refine G.skip rfl rfl rfl rfl rfl rfl ?_
    first | refine G.pickT rfl trivial rfl rfl rfl rfl ?_ | refine G.pickF rfl trivial rfl rfl rfl rfl ?_
    refine G.moveB rfl trivial rfl rfl rfl ?_
    refine G.skip rfl rfl rfl rfl rfl rfl ?_
    refine G.skip rfl rfl rfl rfl rfl rfl ?_
    first | refine G.pickT rfl trivial rfl rfl rfl rfl ?_ | refine G.pickF rfl trivial rfl rfl rfl rfl ?_
    refine G.nil ?_
    refine C.condT rfl ?_
    refine C.seq ?_
    refine C.region ?_
    refine G.assignB rfl trivial rfl rfl rfl ?_
    refine G.nil ?_
    refine C.ret ?_
    -- end g22T
    exact ⟨rfl, _, Res.of (rs := [.tmp 4]) rfl rfl, rfl⟩
  · intro hg22
    refine G.moveI rfl ⟨_, rfl, rfl, rfl⟩ rfl rfl rfl ?_
    refine G.bin rfl ⟨_, rfl, rfl, rfl⟩ rfl rfl rfl rfl rfl ?_
    first | refine G.pickT rfl trivial rfl rfl rfl rfl ?_ | refine G.pickF rfl trivial rfl rfl rfl rfl ?_
    refine G.moveB rfl trivial rfl rfl rfl ?_
    refine G.fork (t := 26) _ rfl ?_ ?_
    · intro hg26
      refine G.skip rfl rfl rfl rfl rfl rfl ?_
      refine G.skip rfl rfl rfl rfl rfl rfl ?_
      first | refine G.pickT rfl trivial rfl rfl rfl rfl ?_ | refine G.pickF rfl trivial rfl rfl rfl rfl ?_
      refine G.moveB rfl trivial rfl rfl rfl ?_
      refine G.skip rfl rfl rfl rfl rfl rfl ?_
      refine G.skip rfl rfl rfl rfl rfl rfl ?_
      first | refine G.pickT rfl trivial rfl rfl rfl rfl ?_ | refine G.pickF rfl trivial rfl rfl rfl rfl ?_
      refine G.nil ?_
      refine C.condT rfl ?_
      refine C.seq ?_
      refine C.region ?_
      refine G.assignB rfl trivial rfl rfl rfl ?_
      refine G.nil ?_
      refine C.ret ?_
      -- end g22Fg26T
      exact ⟨rfl, _, Res.of (rs := [.tmp 4]) rfl rfl, rfl⟩
    · intro hg26
      refine G.moveI rfl ⟨_, rfl, rfl, rfl⟩ rfl rfl rfl ?_
      refine G.bin rfl ⟨_, rfl, rfl, rfl⟩ rfl rfl rfl rfl rfl ?_
      first | refine G.pickT rfl trivial rfl rfl rfl rfl ?_ | refine G.pickF rfl trivial rfl rfl rfl rfl ?_
      refine G.moveB rfl trivial rfl rfl rfl ?_
      refine G.fork (t := 30) _ rfl ?_ ?_
      · intro hg30
        refine G.skip rfl rfl rfl rfl rfl rfl ?_
        refine G.skip rfl rfl rfl rfl rfl rfl ?_
        first | refine G.pickT rfl trivial rfl rfl rfl rfl ?_ | refine G.pickF rfl trivial rfl rfl rfl rfl ?_
        refine G.nil ?_
        refine C.condT rfl ?_
        refine C.seq ?_
        refine C.region ?_
        refine G.assignB rfl trivial rfl rfl rfl ?_
        refine G.nil ?_
        refine C.ret ?_
        -- end g22Fg26Fg30T
        exact ⟨rfl, _, Res.of (rs := [.tmp 4]) rfl rfl, rfl⟩
      · intro hg30
        refine G.moveI rfl ⟨_, rfl, rfl, rfl⟩ rfl rfl rfl ?_
        refine G.bin rfl ⟨_, rfl, rfl, rfl⟩ rfl rfl rfl rfl rfl ?_
        first | refine G.pickT rfl trivial rfl rfl rfl rfl ?_ | refine G.pickF rfl trivial rfl rfl rfl rfl ?_
        refine G.nil ?_
        refine C.yes rfl (by omega) ?_
        refine C.seq ?_
        refine C.region ?_
        refine G.assignB rfl trivial rfl rfl rfl ?_
        refine G.nil ?_
        refine C.ret ?_
        -- end g22Fg26Fg30F
        exact ⟨rfl, _, Res.of (rs := [.tmp 4]) rfl rfl, rfl⟩
end Go.Proofs.Ytjfjmhmfhkdcbaa
