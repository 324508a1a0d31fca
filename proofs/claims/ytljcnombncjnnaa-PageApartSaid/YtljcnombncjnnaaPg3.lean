/-
  The law PageApart, walked.
-/
import Derived.Test.YtljcnombncjnnaaPg2
namespace Go.Proofs.Ytljcnombncjnnaa
open Go Go.SL Go.RowKit

theorem u8_of (i : Nat) : Value.int .u8 (IntKind.u8.wrap (i : Int)) = .int .u8 ((UInt8.ofNat i).toNat : Int) := by
  have h1 : IntKind.u8.wrap (i : Int) = ((i % 256 : Nat) : Int) := by
    simp only [IntKind.wrap, IntKind.bits, IntKind.signed]
    simp
  rw [h1]
  congr 2
theorem u8_add (x y : UInt8) : Value.int .u8 (IntKind.u8.wrap ((x.toNat : Int) + (y.toNat : Int))) = .int .u8 ((x + y).toNat : Int) := by
  have h1 : IntKind.u8.wrap ((x.toNat : Int) + (y.toNat : Int)) = (((x.toNat + y.toNat) % 256 : Nat) : Int) := by
    rw [← Int.natCast_add]
    simp only [IntKind.wrap, IntKind.bits, IntKind.signed]
    simp
  rw [h1, UInt8.toNat_add]
/-- the device with every seventh sector written, as far as the i-th -/
def sev (i : Nat) : List Sec := (List.range 1410).map (fun j => if j % 7 = 0 ∧ j < i then zeroSec.put [UInt8.ofNat j, 1] else zeroSec)
theorem sev_length (i : Nat) : (sev i).length = 1410 := by simp [sev]
theorem sev_at {i j : Nat} (h : j < 1410) : (sev i)[j]? = some (if j % 7 = 0 ∧ j < i then zeroSec.put [UInt8.ofNat j, 1] else zeroSec) := by
  simp only [sev, List.getElem?_map, List.getElem?_range h, Option.map_some]
theorem sev_zero : sev 0 = (newDv 1410).l := by
  apply List.ext_getElem?
  intro j
  by_cases h : j < 1410
  · rw [sev_at h, if_neg (by omega)]
    simp only [newDv, List.getElem?_replicate, h, if_true]
  · rw [List.getElem?_eq_none (by rw [sev_length]; omega), List.getElem?_eq_none (by rw [newDv_len]; omega)]
theorem sev_step {i : Nat} (h7 : i % 7 = 0) (hi : i < 1410) : (sev i).modify i (·.put [UInt8.ofNat i, 1]) = sev (i + 7) := by
  apply List.ext_getElem?
  intro j
  rw [List.getElem?_modify]
  by_cases h : j < 1410
  · rw [sev_at h, sev_at h]
    simp only [Option.map_eq_map, Option.map_some]
    by_cases e : i = j
    · subst e
      rw [if_pos rfl, if_neg (by omega), if_pos (by omega)]
    · rw [if_neg e]
      congr 1
      by_cases h2 : j % 7 = 0 ∧ j < i
      · rw [if_pos h2, if_pos (by omega)]
      · rw [if_neg h2, if_neg (by omega)]
  · rw [List.getElem?_eq_none (by rw [sev_length]; omega), List.getElem?_eq_none (by rw [sev_length]; omega)]
    rfl
theorem sev_ok (i : Nat) : ∀ s ∈ sev i, s.ok := by
  intro s hs
  obtain ⟨j, _, rfl⟩ := List.mem_map.1 hs
  split
  · exact Sec.put_ok zeroSec_ok (by simp)
  · exact zeroSec_ok
/-- what a sector holds at the end -/
theorem apart_now {i n j : Nat} (hi : 1410 ≤ i) {P : List UInt8} (hP : P.length = 256) (hj : j < 1410) (hn : n < 96) (h : j < (lay (2 + 4 * n) P 4 (sev i)).length) :
    (lay (2 + 4 * n) P 4 (sev i))[j].now = if 2 + 4 * n ≤ j ∧ j < 2 + 4 * n + 4 then part P (j - (2 + 4 * n)) else if j % 7 = 0 then over [UInt8.ofNat j, 1] zero64 else zero64 := by
  by_cases hin : 2 + 4 * n ≤ j ∧ j < 2 + 4 * n + 4
  · rw [if_pos hin]
    have h2 := lay_now (sev_ok i) hP (p := 2 + 4 * n) (q := j - (2 + 4 * n)) (by omega) (by rw [sev_length]; omega) (by rw [lay_length, sev_length]; omega)
    have e : 2 + 4 * n + (j - (2 + 4 * n)) = j := by omega
    simp only [e] at h2
    exact h2
  · rw [if_neg hin]
    have h1 := lay_at (2 + 4 * n) P j 4 (by omega) (sev i)
    rw [List.getElem?_eq_getElem h, sev_at hj, Option.map_some, if_neg (by omega)] at h1
    rw [Option.some.inj h1]
    by_cases h7 : j % 7 = 0
    · rw [if_pos ⟨h7, by omega⟩, if_pos h7]; rfl
    · rw [if_neg (by omega), if_neg h7]; rfl
/-- a row written one by one -/
theorem set_step {X : List UInt8} {i n : Nat} (hX : X.length = n) (hi : i < n) : (bytesV (X.take i ++ List.replicate (n - i) 0)).set (0 + (i : Int).toNat * 1) (.int .u8 (X[i].toNat : Int)) = bytesV (X.take (i + 1) ++ List.replicate (n - (i + 1)) 0) := by
  have e : n - i = (n - (i + 1)) + 1 := by omega
  have hl : (bytesV (X.take i)).length = i := by simp; omega
  have e0 : 0 + (i : Int).toNat * 1 = i := by simp
  rw [e0, e, List.replicate_succ, bytesV_append, List.set_append_right _ _ (by omega), hl, Nat.sub_self, List.take_succ_eq_append_getElem (by omega), List.append_assoc, bytesV_append]
  rfl
theorem apart_walk (W0 : World) (n : Nat) (hn : n < 96) (x : UInt8) :
    FnS Try.prog W0 4 #[.int .i64 (n : Int), .int .u8 (x.toNat : Int)] [] (fun e _ => e = .returned (.bool true)) := by
  obtain ⟨P, hP⟩ : ∃ P, P = (List.range 256).map (fun i => x + UInt8.ofNat i) := ⟨_, rfl⟩
  have hPl : P.length = 256 := by subst hP; simp
  have hPi : ∀ i (h : i < 256), x + UInt8.ofNat i = P[i] := by intro i h; subst hP; simp
  refine FnS.of (args := [.int .i64 (n : Int), .int .u8 (x.toNat : Int)]) Try.func4 rfl rfl ?_
  refine C.seq ?_
  refine C.region ?_
  refine G.assignB rfl trivial rfl rfl rfl ?_
  refine G.nil ?_
  refine C.seq ?_
  refine C.region ?_
  refine G.call E6 rfl rfl trivial rfl rfl (begun_spec W0 _) rfl ?_
  rintro e L2 ⟨rfl, rfl⟩
  refine G.assignB rfl trivial rfl rfl rfl ?_
  refine G.nil ?_
  refine C.seq ?_
  refine C.seq ?_
  refine C.region ?_
  refine G.moveB rfl trivial rfl rfl rfl ?_
  first | refine G.notD rfl trivial rfl rfl rfl ?_ | refine G.not rfl trivial rfl rfl rfl ?_
  refine G.nil ?_
  refine C.condF rfl ?_
  refine C.skip ?_
  refine C.seq ?_
  refine C.seq ?_
  refine C.region ?_
  refine G.moveI rfl trivial rfl rfl rfl ?_
  refine G.bin rfl trivial rfl rfl rfl rfl rfl ?_
  refine G.moveB rfl trivial rfl rfl rfl ?_
  refine G.no (t := 19) rfl (by omega) ?_
  refine G.moveI rfl ⟨_, rfl, rfl, rfl⟩ rfl rfl rfl ?_
  refine G.bin rfl ⟨_, rfl, rfl, rfl⟩ rfl rfl rfl rfl rfl ?_
  first | refine G.pickT rfl trivial rfl rfl rfl rfl ?_ | refine G.pickF rfl trivial rfl rfl rfl rfl ?_
  refine G.nil ?_
  refine C.no rfl (by omega) ?_
  refine C.skip ?_
  refine C.seq ?_
  refine C.region ?_
  refine G.call E7 rfl rfl trivial rfl rfl (new_spec W0 _ 1410) rfl ?_
  rintro e L2 ⟨bd, bl, rfl, rfl⟩
  rw [show clampN 1410 = 1410 from rfl]
  refine G.assignP rfl trivial rfl rfl rfl ?_
  refine G.nil ?_
  refine C.seq ?_
  refine C.seq ?_
  refine C.region ?_
  refine G.assignI rfl trivial rfl rfl rfl ?_
  refine G.nil ?_
  refine C.block ?_
  refine C.loop (fun m F D' L' => ∃ (i : Nat) (d1 : Dv), i % 7 = 0 ∧ i ≤ 1414 ∧ d1.live ∧ d1.ok ∧ d1.l = sev i ∧ m = 1415 - i ∧ F 7 = .int .i64 i ∧ F 6 = ptr bd ∧ F 0 = .int .i64 n ∧ F 1 = .int .u8 (x.toNat : Int) ∧ D' = [] ∧ devSeg bd bl d1 :: [] = L') ⟨_, ⟨0, newDv 1410, rfl, by omega, newDv_live _, newDv_ok (by decide), sev_zero.symm, rfl, rfl, rfl, rfl, rfl, rfl, rfl⟩⟩ ?_
  rintro m F D' L' ⟨i, d1, h7, hi, hlive, hok, hdl, rfl, h7', h6, h0', h1', rfl, rfl⟩
  refine C.fix (d := 7) h7' ?_
  refine C.fix (d := 6) h6 ?_
  refine C.fix (d := 0) h0' ?_
  refine C.fix (d := 1) h1' ?_
  refine C.seq ?_
  refine C.seq ?_
  refine C.region ?_
  refine G.moveI rfl trivial rfl rfl rfl ?_
  refine G.bin rfl trivial rfl rfl rfl rfl rfl ?_
  refine G.nil ?_
  refine C.cond _ rfl ?_ ?_
  · intro hc2
    have hlt : i < 1410 := by omega
    refine C.skip ?_
    refine C.seq ?_
    refine C.block ?_
    refine C.region ?_
    refine G.moveP rfl trivial rfl rfl rfl ?_
    refine G.moveI rfl trivial rfl rfl rfl ?_
    refine G.moveI rfl trivial rfl rfl rfl ?_
    refine G.convInt rfl trivial rfl rfl Try.underlying3 Try.underlying5 rfl ?_
    refine G.fix (d := 31) (v := .int .u8 ((UInt8.ofNat i).toNat : Int)) (u8_of i) ?_
    refine G.buildSliceL (cs := [.int .u8 ((UInt8.ofNat i).toNat : Int), .int .u8 1]) (zs := [(.int .u8 0), (.int .u8 0)]) rfl trivial rfl rfl Try.underlying23 I5 rfl (by kernel_rfl) rfl rfl ?_
    intro b32
    refine G.call E12 rfl rfl trivial rfl rfl (write_spec W0 [_] _ bd bl d1 hok i _ 2 2 [UInt8.ofNat i, 1] rfl (fun _ => Rd.row0 (cs := bytesV [UInt8.ofNat i, 1]) .here)) rfl ?_
    rintro e L2 ⟨rfl, rfl⟩
    rw [wr_live hlive (by rw [hdl, sev_length]; exact hlt) (by simp)]
    refine G.less (fun _ h => h.tail) ?_
    refine G.nil ?_
    refine C.region ?_
    refine G.moveI rfl trivial rfl rfl rfl ?_
    refine G.add rfl trivial rfl rfl rfl rfl (by omega) ?_
    refine G.assignI rfl trivial rfl rfl rfl ?_
    refine G.nil ?_
    exact ⟨1415 - (i + 7), by omega, i + 7, d1.put i [UInt8.ofNat i, 1], by omega, by omega, live_put hlive _ _, Dv.put_ok hok hlive.notDead (by simp), by show d1.l.modify i _ = _; rw [hdl]; exact sev_step h7 hlt, rfl, rfl, rfl, rfl, rfl, rfl, rfl⟩
  · intro hc2
    have hend : 1410 ≤ i := by omega
    refine C.exit ?_
    refine C.seq ?_
    refine C.region ?_
    refine G.makeBytes (l := 256) (c := 256) rfl trivial rfl rfl Try.underlying23 I5 rfl rfl (by decide) ?_
    intro b34
    refine G.assignS rfl trivial rfl rfl rfl ?_
    refine G.nil ?_
    refine C.seq ?_
    refine C.seq ?_
    refine C.region ?_
    refine G.moveS rfl trivial rfl rfl rfl ?_
    refine G.lenSlice rfl trivial rfl rfl Try.underlying23 rfl ?_
    refine G.moveI rfl trivial rfl rfl rfl ?_
    refine G.nil ?_
    refine C.block ?_
    refine C.loop (fun m F D' L' => ∃ k : Nat, k ≤ 256 ∧ m = 256 - k ∧ F 37 = .int .i64 k ∧ F 36 = .int .i64 (256 : Nat) ∧ F 8 = .slice (some ⟨b34, 0, none⟩) 256 256 ∧ F 6 = ptr bd ∧ F 0 = .int .i64 n ∧ F 1 = .int .u8 (x.toNat : Int) ∧ D' = [] ∧ [(b34, .row (bytesV (P.take k ++ List.replicate (256 - k) 0)) 5 256)] :: devSeg bd bl d1 :: [] = L') ⟨_, ⟨0, by omega, rfl, rfl, rfl, rfl, rfl, rfl, rfl, rfl, rfl⟩⟩ ?_
    rintro m F D' L' ⟨k, hk, rfl, h37, h36, h8, h6, h0', h1', rfl, rfl⟩
    refine C.fix (d := 37) h37 ?_
    refine C.fix (d := 36) h36 ?_
    refine C.fix (d := 8) h8 ?_
    refine C.fix (d := 6) h6 ?_
    refine C.fix (d := 0) h0' ?_
    refine C.fix (d := 1) h1' ?_
    refine C.seq ?_
    refine C.region ?_
    refine G.bin rfl trivial rfl rfl rfl rfl rfl ?_
    refine G.nil ?_
    refine C.seq ?_
    refine C.cond _ rfl ?_ ?_
    · intro hc3
      have hkl : k < 256 := by omega
      refine C.skip ?_
      refine C.seq ?_
      refine C.block ?_
      refine C.seq ?_
      refine C.region ?_
      refine G.moveI rfl trivial rfl rfl rfl ?_
      refine G.assignI rfl trivial rfl rfl rfl ?_
      refine G.nil ?_
      refine C.region ?_
      refine G.moveS rfl trivial rfl rfl rfl ?_
      refine G.moveI rfl trivial rfl rfl rfl ?_
      refine G.moveI rfl trivial rfl rfl rfl ?_
      refine G.moveI rfl trivial rfl rfl rfl ?_
      refine G.convInt rfl trivial rfl rfl Try.underlying3 Try.underlying5 rfl ?_
      refine G.fix (d := 44) (v := .int .u8 ((UInt8.ofNat k).toNat : Int)) (u8_of k) ?_
      refine G.bin rfl trivial rfl rfl rfl rfl rfl ?_
      refine G.fix (d := 45) (v := .int .u8 (P[k].toNat : Int)) ((u8_add _ _).trans (by rw [hPi k hkl])) ?_
      refine G.indexAddr rfl trivial rfl rfl Try.underlying23 I5 rfl rfl (by omega) ?_
      refine G.store .here rfl trivial rfl I5 rfl rfl rfl (by simp; omega) _ (set_step hPl hkl) ?_
      refine G.nil ?_
      refine C.region ?_
      refine G.add rfl trivial rfl rfl rfl rfl (by omega) ?_
      refine G.moveI rfl trivial rfl rfl rfl ?_
      refine G.nil ?_
      exact ⟨256 - (k + 1), by omega, k + 1, by omega, rfl, rfl, rfl, rfl, rfl, rfl, rfl, rfl, rfl⟩
    · intro hc3
      obtain rfl : k = 256 := by omega
      rw [show P.take 256 ++ List.replicate (256 - 256) 0 = P by rw [List.take_of_length_le (by omega)]; simp]
      refine C.exit ?_
      refine C.seq ?_
      refine C.seq ?_
      refine C.region ?_
      refine G.moveP rfl trivial rfl rfl rfl ?_
      refine G.moveI rfl trivial rfl rfl rfl ?_
      refine G.moveS rfl trivial rfl rfl rfl ?_
      refine G.call E9 rfl rfl trivial rfl rfl (page_write W0 [_] _ bd bl d1 hok n (by omega) _ _ P hPl (by decide) (fun _ => Rd.row0 .here)) rfl ?_
      rintro e L2 ⟨rfl, rfl⟩
      rw [pageW_live hn hPl 4 (by decide) d1 hlive (by rw [hdl, sev_length]; decide)]
      have hd2ok : ({ d1 with l := lay (2 + 4 * n) P 4 d1.l, calls := incs 4 d1.calls } : Dv).ok := ⟨lay_ok hPl 4 (by decide) _ hok.1, by show (lay _ _ 4 d1.l).length ≤ 2048; rw [lay_length, hdl, sev_length]; decide, hok.2.2.1, hok.2.2.2⟩
      have hd2l : ({ d1 with l := lay (2 + 4 * n) P 4 d1.l, calls := incs 4 d1.calls } : Dv).l = lay (2 + 4 * n) P 4 (sev i) := by rw [← hdl]
      generalize ({ d1 with l := lay (2 + 4 * n) P 4 d1.l, calls := incs 4 d1.calls } : Dv) = d2 at *
      refine G.bin rfl trivial rfl rfl rfl rfl rfl ?_
      refine G.nil ?_
      refine C.no rfl (by simp) ?_
      refine C.skip ?_
      refine C.seq ?_
      refine C.seq ?_
      refine C.region ?_
      refine G.assignI rfl trivial rfl rfl rfl ?_
      refine G.nil ?_
      refine C.block ?_
      refine C.loop (fun m F D' L' => ∃ j : Nat, j ≤ 1410 ∧ m = 1410 - j ∧ F 10 = .int .i64 j ∧ F 6 = ptr bd ∧ F 8 = .slice (some ⟨b34, 0, none⟩) 256 256 ∧ F 0 = .int .i64 n ∧ D' = [] ∧ [(b34, .row (bytesV P) 5 256)] :: devSeg bd bl d2 :: [] = L') ⟨_, ⟨0, by omega, rfl, rfl, rfl, rfl, rfl, rfl, rfl⟩⟩ ?_
      rintro m F D' L' ⟨j, hj, rfl, h10, h6, h8, h0', rfl, rfl⟩
      refine C.fix (d := 10) h10 ?_
      refine C.fix (d := 6) h6 ?_
      refine C.fix (d := 8) h8 ?_
      refine C.fix (d := 0) h0' ?_
      refine C.seq ?_
      refine C.seq ?_
      refine C.region ?_
      refine G.moveI rfl trivial rfl rfl rfl ?_
      refine G.bin rfl trivial rfl rfl rfl rfl rfl ?_
      refine G.nil ?_
      refine C.cond _ rfl ?_ ?_
      · intro hc5
        have hjl : j < 1410 := by omega
        have hj2 : j < d2.l.length := by rw [hd2l, lay_length, sev_length]; exact hjl
        have hnow : d2.l[j].now = if 2 + 4 * n ≤ j ∧ j < 2 + 4 * n + 4 then part P (j - (2 + 4 * n)) else if j % 7 = 0 then over [UInt8.ofNat j, 1] zero64 else zero64 := by
          have h := apart_now hend hPl hjl hn (by rw [lay_length, sev_length]; exact hjl)
          simp only [← hd2l] at h
          exact h
        refine C.skip ?_
        refine C.seq ?_
        refine C.block ?_
        refine C.seq ?_
        refine C.region ?_
        refine G.moveP rfl trivial rfl rfl rfl ?_
        refine G.moveI rfl trivial rfl rfl rfl ?_
        refine G.call E10 rfl rfl trivial rfl rfl (read_ok W0 [_] _ bd bl d2 hd2ok j hj2) rfl ?_
        rintro e L2 ⟨v, seg, hv, rfl, rfl⟩
        rw [hnow] at hv
        have hv1 := hv.1
        obtain ⟨a60, c60, rfl, hr60⟩ := hv.form
        obtain ⟨p60, o60, rfl, _⟩ := (hr60 W0 []).some_ (by omega)
        refine G.moveU rfl trivial rfl rfl rfl ?_
        refine G.extractL rfl trivial rfl rfl rfl rfl ?_
        refine G.extractL rfl trivial rfl rfl rfl rfl ?_
        refine G.assignS rfl trivial rfl rfl rfl ?_
        refine G.assignI rfl trivial rfl rfl rfl ?_
        refine G.nil ?_
        refine C.seq ?_
        refine C.seq ?_
        refine C.region ?_
        refine G.moveI rfl trivial rfl rfl rfl ?_
        refine G.bin rfl trivial rfl rfl rfl rfl rfl ?_
        refine G.nil ?_
        refine C.no rfl (by simp) ?_
        refine C.skip ?_
        refine C.seq ?_
        refine C.region ?_
        refine G.moveI rfl trivial rfl rfl rfl ?_
        refine G.sub rfl trivial rfl rfl rfl rfl (by omega) ?_
        refine G.moveI rfl trivial rfl rfl rfl ?_
        refine G.mul rfl trivial rfl rfl rfl rfl (by omega) ?_
        refine G.sub rfl trivial rfl rfl rfl rfl (by omega) ?_
        refine G.assignI rfl trivial rfl rfl rfl ?_
        refine G.nil ?_
        refine C.seq ?_
        refine C.region ?_
        refine G.moveI rfl trivial rfl rfl rfl ?_
        refine G.bin rfl trivial rfl rfl rfl rfl rfl ?_
        refine G.moveB rfl trivial rfl rfl rfl ?_
        refine G.fork (t := 72) _ rfl ?_ ?_
        · intro hg72
          refine G.moveI rfl ⟨_, rfl, rfl, rfl⟩ rfl rfl rfl ?_
          refine G.bin rfl ⟨_, rfl, rfl, rfl⟩ rfl rfl rfl rfl rfl ?_
          first | refine G.pickT rfl trivial rfl rfl rfl rfl ?_ | refine G.pickF rfl trivial rfl rfl rfl rfl ?_
          refine G.nil ?_
          refine C.cond _ rfl ?_ ?_
          · intro hc7
            obtain ⟨q, hq⟩ : ∃ q : Nat, q = j - (2 + 4 * n) := ⟨_, rfl⟩
            have hq4 : q < 4 := by omega
            refine C.fix (d := 13) (v := .int .i64 (q : Int)) (by show Value.int .i64 _ = _; congr 1; omega) ?_
            have hr61 : ∀ L, Rd W0 (seg :: L) (some ⟨p60, o60, none⟩) (bytesV (part P q)) := fun L => by have h := hr60 W0 L; rwa [if_pos (by omega), ← hq] at h
            have hpl : (part P q).length = 64 := part_length hPl hq4
            refine C.seq ?_
            refine C.drawn mixed (_) [] (fun _ h => h) ?_
            refine GA.pure (i := 0) (fun _ _ _ _ _ h => h) rfl (by kernel_rfl) trivial rfl rfl (Y.moveS rfl rfl) (#[true, false, false, false, false, false, false, false, false, false, false]) (by kernel_rfl) ?_
            refine GA.read (i := 1) (fun _ _ _ _ _ h => h) rfl (by kernel_rfl) (by kernel_rfl) trivial rfl rfl (Y.bytesStr (part P q) rfl Try.underlying23 Try.underlying5 Try.underlying9 rfl hpl.symm (hr61 _)) (#[true, true, false, false, false, false, false, false, false, false, false]) (by kernel_rfl) ?_
            refine GA.pure (i := 2) (fun _ _ _ _ _ h => h) rfl (by kernel_rfl) trivial rfl rfl (Y.moveS rfl rfl) (#[true, true, true, false, false, false, false, false, false, false, false]) (by kernel_rfl) ?_
            refine GA.pure (i := 3) (fun _ _ _ _ _ h => h) rfl (by kernel_rfl) trivial rfl rfl (Y.moveI rfl rfl) (#[true, true, true, true, false, false, false, false, false, false, false]) (by kernel_rfl) ?_
            refine GA.pure (i := 4) (fun _ _ _ _ _ h => h) rfl (by kernel_rfl) trivial rfl rfl (Y.mul rfl rfl rfl (by omega)) (#[true, true, true, true, true, false, false, false, false, false, false]) (by kernel_rfl) ?_
            refine GA.pure (i := 5) (fun _ _ _ _ _ h => h) rfl (by kernel_rfl) trivial rfl rfl (Y.moveI rfl rfl) (#[true, true, true, true, true, true, false, false, false, false, false]) (by kernel_rfl) ?_
            refine GA.pure (i := 6) (fun _ _ _ _ _ h => h) rfl (by kernel_rfl) trivial rfl rfl (Y.mul rfl rfl rfl (by omega)) (#[true, true, true, true, true, true, true, false, false, false, false]) (by kernel_rfl) ?_
            refine GA.pure (i := 7) (fun _ _ _ _ _ h => h) rfl (by kernel_rfl) trivial rfl rfl (Y.add rfl rfl rfl (by omega)) (#[true, true, true, true, true, true, true, true, false, false, false]) (by kernel_rfl) ?_
            refine GA.pure (i := 8) (fun _ _ _ _ _ h => h) rfl (by kernel_rfl) trivial rfl rfl (Y.sliceLH rfl Try.underlying23 I5 rfl rfl rfl (by omega)) (#[true, true, true, true, true, true, true, true, true, false, false]) (by kernel_rfl) ?_
            refine GA.read (i := 9) (fun _ _ _ _ _ h => h) rfl (by kernel_rfl) (by kernel_rfl) trivial rfl rfl (Y.bytesStr (part P q) rfl Try.underlying23 Try.underlying5 Try.underlying9 rfl (by rw [hpl]; omega) (by have h := ((Rd.row0 (W0 := W0) (L := seg :: [(b34, .row (bytesV P) 5 256)] :: devSeg bd bl d2 :: []) (.next .here)).cut (n := 256) (cap := 256) (l := 64 * q) (sz := 1) (by simp [hPl]) (Nat.le_refl _)).take (n := 64); simp only [bytesV_drop, bytesV_take, Nat.mul_one] at h; rw [show (64 * (q : Int)).toNat = 64 * q by omega]; exact h)) (#[true, true, true, true, true, true, true, true, true, true, false]) (by kernel_rfl) ?_
            refine GA.pure (i := 10) (fun _ _ _ _ _ h => h) rfl (by kernel_rfl) trivial rfl rfl (Y.strNe rfl  rfl rfl) (#[true, true, true, true, true, true, true, true, true, true, true]) (by kernel_rfl) ?_
            refine GA.no (t := 86) rfl (by simp) ?_
            refine GA.done (by kernel_rfl) ?_
            refine C.condF rfl ?_
            refine C.skip ?_
            refine C.region ?_
            refine G.moveI rfl trivial rfl rfl rfl ?_
            refine G.add rfl trivial rfl rfl rfl rfl (by omega) ?_
            refine G.assignI rfl trivial rfl rfl rfl ?_
            refine G.less (fun _ h => h.tail) ?_
            refine G.nil ?_
            exact ⟨1410 - (j + 1), by omega, j + 1, by omega, rfl, rfl, rfl, rfl, rfl, rfl, rfl⟩
          · intro hc7
            refine C.seq ?_
            refine C.region ?_
            refine G.moveI rfl trivial rfl rfl rfl ?_
            refine G.rem rfl trivial rfl rfl rfl rfl (by decide) ?_
            rw [show (j : Int).tmod 7 = ((j % 7 : Nat) : Int) by rw [Int.tmod_eq_emod_of_nonneg (by omega)]; omega]
            refine G.bin rfl trivial rfl rfl rfl rfl rfl ?_
            refine G.moveB rfl trivial rfl rfl rfl ?_
            refine G.fork (t := 90) _ rfl ?_ ?_
            · intro hg90
              refine G.moveS rfl ⟨_, rfl, rfl, rfl⟩ rfl rfl rfl ?_
              refine G.indexAddr rfl ⟨_, rfl, rfl, rfl⟩ rfl rfl Try.underlying23 I5 rfl rfl (by omega) ?_
              refine G.load (v := .int .u8 ((UInt8.ofNat j).toNat : Int)) rfl ⟨_, rfl, rfl, rfl⟩ rfl rfl Try.underlying5 rfl rfl (fun w hm => by show w.cell? ⟨p60, o60 + 0, none⟩ = _; rw [Rd.cell_at (j := 0) (hr60 W0 _) (by omega) w hm, if_neg (by omega), if_pos (by omega)]; rfl) ?_
              refine G.moveI rfl ⟨_, rfl, rfl, rfl⟩ rfl rfl rfl ?_
              refine G.convInt rfl ⟨_, rfl, rfl, rfl⟩ rfl rfl Try.underlying3 Try.underlying5 rfl ?_
              refine G.fix (d := 95) (v := .int .u8 ((UInt8.ofNat j).toNat : Int)) (u8_of j) ?_
              refine G.bin rfl ⟨_, rfl, rfl, rfl⟩ rfl rfl rfl rfl rfl ?_
              refine G.no (t := 96) rfl (by simp) ?_
              refine G.moveB rfl ⟨_, rfl, rfl, rfl⟩ rfl rfl rfl ?_
              refine G.moveS rfl ⟨_, rfl, rfl, rfl⟩ rfl rfl rfl ?_
              refine G.indexAddr rfl ⟨_, rfl, rfl, rfl⟩ rfl rfl Try.underlying23 I5 rfl rfl (by omega) ?_
              refine G.load (v := .int .u8 1) rfl ⟨_, rfl, rfl, rfl⟩ rfl rfl Try.underlying5 rfl rfl (fun w hm => by show w.cell? ⟨p60, o60 + 1, none⟩ = _; rw [Rd.cell_at (j := 1) (hr60 W0 _) (by omega) w hm, if_neg (by omega), if_pos (by omega)]; rfl) ?_
              refine G.bin rfl ⟨_, rfl, rfl, rfl⟩ rfl rfl rfl rfl rfl ?_
              refine G.no (t := 101) rfl (by simp) ?_
              first | refine G.pickT rfl ⟨_, rfl, rfl, rfl⟩ rfl rfl rfl rfl ?_ | refine G.pickF rfl ⟨_, rfl, rfl, rfl⟩ rfl rfl rfl rfl ?_
              first | refine G.pickT rfl trivial rfl rfl rfl rfl ?_ | refine G.pickF rfl trivial rfl rfl rfl rfl ?_
              refine G.moveB rfl trivial rfl rfl rfl ?_
              refine G.moveI rfl ⟨_, rfl, rfl, rfl⟩ rfl rfl rfl ?_
              refine G.rem rfl ⟨_, rfl, rfl, rfl⟩ rfl rfl rfl rfl (by decide) ?_
              rw [show (j : Int).tmod 7 = ((j % 7 : Nat) : Int) by rw [Int.tmod_eq_emod_of_nonneg (by omega)]; omega]
              refine G.bin rfl ⟨_, rfl, rfl, rfl⟩ rfl rfl rfl rfl rfl ?_
              refine G.no (t := 107) rfl (by omega) ?_
              refine G.moveB rfl ⟨_, rfl, rfl, rfl⟩ rfl rfl rfl ?_
              refine G.skip rfl rfl rfl rfl rfl rfl ?_
              refine G.skip rfl rfl rfl rfl rfl rfl ?_
              refine G.skip rfl rfl rfl rfl rfl rfl ?_
              refine G.skip rfl rfl rfl rfl rfl rfl ?_
              refine G.skip rfl rfl rfl rfl rfl rfl ?_
              refine G.skipU rfl rfl rfl rfl rfl rfl ?_
              refine G.skipU rfl rfl rfl rfl rfl rfl ?_
              refine G.skipU rfl rfl rfl rfl rfl rfl ?_
              refine G.skipU rfl rfl rfl rfl rfl rfl ?_
              refine G.skip rfl rfl rfl rfl rfl rfl ?_
              first | refine G.pickT rfl ⟨_, rfl, rfl, rfl⟩ rfl rfl rfl rfl ?_ | refine G.pickF rfl ⟨_, rfl, rfl, rfl⟩ rfl rfl rfl rfl ?_
              first | refine G.pickT rfl trivial rfl rfl rfl rfl ?_ | refine G.pickF rfl trivial rfl rfl rfl rfl ?_
              refine G.nil ?_
              refine C.condF rfl ?_
              refine C.skip ?_
              refine C.region ?_
              refine G.moveI rfl trivial rfl rfl rfl ?_
              refine G.add rfl trivial rfl rfl rfl rfl (by omega) ?_
              refine G.assignI rfl trivial rfl rfl rfl ?_
              refine G.less (fun _ h => h.tail) ?_
              refine G.nil ?_
              exact ⟨1410 - (j + 1), by omega, j + 1, by omega, rfl, rfl, rfl, rfl, rfl, rfl, rfl⟩
            · intro hg90
              refine G.skip rfl rfl rfl rfl rfl rfl ?_
              refine G.skip rfl rfl rfl rfl rfl rfl ?_
              refine G.skip rfl rfl rfl rfl rfl rfl ?_
              refine G.skip rfl rfl rfl rfl rfl rfl ?_
              refine G.skip rfl rfl rfl rfl rfl rfl ?_
              refine G.skip rfl rfl rfl rfl rfl rfl ?_
              refine G.skip rfl rfl rfl rfl rfl rfl ?_
              refine G.skipU rfl rfl rfl rfl rfl rfl ?_
              refine G.skipU rfl rfl rfl rfl rfl rfl ?_
              refine G.skipU rfl rfl rfl rfl rfl rfl ?_
              refine G.skipU rfl rfl rfl rfl rfl rfl ?_
              refine G.skip rfl rfl rfl rfl rfl rfl ?_
              first | refine G.pickT rfl trivial rfl rfl rfl rfl ?_ | refine G.pickF rfl trivial rfl rfl rfl rfl ?_
              refine G.moveB rfl trivial rfl rfl rfl ?_
              refine G.moveI rfl ⟨_, rfl, rfl, rfl⟩ rfl rfl rfl ?_
              refine G.rem rfl ⟨_, rfl, rfl, rfl⟩ rfl rfl rfl rfl (by decide) ?_
              rw [show (j : Int).tmod 7 = ((j % 7 : Nat) : Int) by rw [Int.tmod_eq_emod_of_nonneg (by omega)]; omega]
              refine G.bin rfl ⟨_, rfl, rfl, rfl⟩ rfl rfl rfl rfl rfl ?_
              refine G.yes (t := 107) rfl (by omega) ?_
              refine G.moveB rfl ⟨_, rfl, rfl, rfl⟩ rfl rfl rfl ?_
              refine G.moveS rfl ⟨_, rfl, rfl, rfl⟩ rfl rfl rfl ?_
              refine G.indexAddr rfl ⟨_, rfl, rfl, rfl⟩ rfl rfl Try.underlying23 I5 rfl rfl (by omega) ?_
              refine G.load (v := .int .u8 0) rfl ⟨_, rfl, rfl, rfl⟩ rfl rfl Try.underlying5 rfl rfl (fun w hm => by show w.cell? ⟨p60, o60 + 0, none⟩ = _; rw [Rd.cell_at (j := 0) (hr60 W0 _) (by omega) w hm, if_neg (by omega), if_neg (by omega)]; rfl) ?_
              refine G.bin rfl ⟨_, rfl, rfl, rfl⟩ rfl rfl rfl rfl rfl ?_
              refine G.no (t := 112) rfl (by simp) ?_
              refine G.moveB rfl ⟨_, rfl, rfl, rfl⟩ rfl rfl rfl ?_
              refine G.moveS rfl ⟨_, rfl, rfl, rfl⟩ rfl rfl rfl ?_
              refine G.indexAddr rfl ⟨_, rfl, rfl, rfl⟩ rfl rfl Try.underlying23 I5 rfl rfl (by omega) ?_
              refine G.load (v := .int .u8 0) rfl ⟨_, rfl, rfl, rfl⟩ rfl rfl Try.underlying5 rfl rfl (fun w hm => by show w.cell? ⟨p60, o60 + 1, none⟩ = _; rw [Rd.cell_at (j := 1) (hr60 W0 _) (by omega) w hm, if_neg (by omega), if_neg (by omega)]; rfl) ?_
              refine G.bin rfl ⟨_, rfl, rfl, rfl⟩ rfl rfl rfl rfl rfl ?_
              refine G.no (t := 117) rfl (by simp) ?_
              first | refine G.pickT rfl ⟨_, rfl, rfl, rfl⟩ rfl rfl rfl rfl ?_ | refine G.pickF rfl ⟨_, rfl, rfl, rfl⟩ rfl rfl rfl rfl ?_
              first | refine G.pickT rfl ⟨_, rfl, rfl, rfl⟩ rfl rfl rfl rfl ?_ | refine G.pickF rfl ⟨_, rfl, rfl, rfl⟩ rfl rfl rfl rfl ?_
              first | refine G.pickT rfl trivial rfl rfl rfl rfl ?_ | refine G.pickF rfl trivial rfl rfl rfl rfl ?_
              refine G.nil ?_
              refine C.condF rfl ?_
              refine C.skip ?_
              refine C.region ?_
              refine G.moveI rfl trivial rfl rfl rfl ?_
              refine G.add rfl trivial rfl rfl rfl rfl (by omega) ?_
              refine G.assignI rfl trivial rfl rfl rfl ?_
              refine G.less (fun _ h => h.tail) ?_
              refine G.nil ?_
              exact ⟨1410 - (j + 1), by omega, j + 1, by omega, rfl, rfl, rfl, rfl, rfl, rfl, rfl⟩
        · intro hg72
          refine G.skip rfl rfl rfl rfl rfl rfl ?_
          refine G.skip rfl rfl rfl rfl rfl rfl ?_
          first | refine G.pickT rfl trivial rfl rfl rfl rfl ?_ | refine G.pickF rfl trivial rfl rfl rfl rfl ?_
          refine G.nil ?_
          refine C.condF rfl ?_
          refine C.seq ?_
          refine C.region ?_
          refine G.moveI rfl trivial rfl rfl rfl ?_
          refine G.rem rfl trivial rfl rfl rfl rfl (by decide) ?_
          rw [show (j : Int).tmod 7 = ((j % 7 : Nat) : Int) by rw [Int.tmod_eq_emod_of_nonneg (by omega)]; omega]
          refine G.bin rfl trivial rfl rfl rfl rfl rfl ?_
          refine G.moveB rfl trivial rfl rfl rfl ?_
          refine G.fork (t := 90) _ rfl ?_ ?_
          · intro hg90
            refine G.moveS rfl ⟨_, rfl, rfl, rfl⟩ rfl rfl rfl ?_
            refine G.indexAddr rfl ⟨_, rfl, rfl, rfl⟩ rfl rfl Try.underlying23 I5 rfl rfl (by omega) ?_
            refine G.load (v := .int .u8 ((UInt8.ofNat j).toNat : Int)) rfl ⟨_, rfl, rfl, rfl⟩ rfl rfl Try.underlying5 rfl rfl (fun w hm => by show w.cell? ⟨p60, o60 + 0, none⟩ = _; rw [Rd.cell_at (j := 0) (hr60 W0 _) (by omega) w hm, if_neg (by omega), if_pos (by omega)]; rfl) ?_
            refine G.moveI rfl ⟨_, rfl, rfl, rfl⟩ rfl rfl rfl ?_
            refine G.convInt rfl ⟨_, rfl, rfl, rfl⟩ rfl rfl Try.underlying3 Try.underlying5 rfl ?_
            refine G.fix (d := 95) (v := .int .u8 ((UInt8.ofNat j).toNat : Int)) (u8_of j) ?_
            refine G.bin rfl ⟨_, rfl, rfl, rfl⟩ rfl rfl rfl rfl rfl ?_
            refine G.no (t := 96) rfl (by simp) ?_
            refine G.moveB rfl ⟨_, rfl, rfl, rfl⟩ rfl rfl rfl ?_
            refine G.moveS rfl ⟨_, rfl, rfl, rfl⟩ rfl rfl rfl ?_
            refine G.indexAddr rfl ⟨_, rfl, rfl, rfl⟩ rfl rfl Try.underlying23 I5 rfl rfl (by omega) ?_
            refine G.load (v := .int .u8 1) rfl ⟨_, rfl, rfl, rfl⟩ rfl rfl Try.underlying5 rfl rfl (fun w hm => by show w.cell? ⟨p60, o60 + 1, none⟩ = _; rw [Rd.cell_at (j := 1) (hr60 W0 _) (by omega) w hm, if_neg (by omega), if_pos (by omega)]; rfl) ?_
            refine G.bin rfl ⟨_, rfl, rfl, rfl⟩ rfl rfl rfl rfl rfl ?_
            refine G.no (t := 101) rfl (by simp) ?_
            first | refine G.pickT rfl ⟨_, rfl, rfl, rfl⟩ rfl rfl rfl rfl ?_ | refine G.pickF rfl ⟨_, rfl, rfl, rfl⟩ rfl rfl rfl rfl ?_
            first | refine G.pickT rfl trivial rfl rfl rfl rfl ?_ | refine G.pickF rfl trivial rfl rfl rfl rfl ?_
            refine G.moveB rfl trivial rfl rfl rfl ?_
            refine G.moveI rfl ⟨_, rfl, rfl, rfl⟩ rfl rfl rfl ?_
            refine G.rem rfl ⟨_, rfl, rfl, rfl⟩ rfl rfl rfl rfl (by decide) ?_
            rw [show (j : Int).tmod 7 = ((j % 7 : Nat) : Int) by rw [Int.tmod_eq_emod_of_nonneg (by omega)]; omega]
            refine G.bin rfl ⟨_, rfl, rfl, rfl⟩ rfl rfl rfl rfl rfl ?_
            refine G.no (t := 107) rfl (by omega) ?_
            refine G.moveB rfl ⟨_, rfl, rfl, rfl⟩ rfl rfl rfl ?_
            refine G.skip rfl rfl rfl rfl rfl rfl ?_
            refine G.skip rfl rfl rfl rfl rfl rfl ?_
            refine G.skip rfl rfl rfl rfl rfl rfl ?_
            refine G.skip rfl rfl rfl rfl rfl rfl ?_
            refine G.skip rfl rfl rfl rfl rfl rfl ?_
            refine G.skipU rfl rfl rfl rfl rfl rfl ?_
            refine G.skipU rfl rfl rfl rfl rfl rfl ?_
            refine G.skipU rfl rfl rfl rfl rfl rfl ?_
            refine G.skipU rfl rfl rfl rfl rfl rfl ?_
            refine G.skip rfl rfl rfl rfl rfl rfl ?_
            first | refine G.pickT rfl ⟨_, rfl, rfl, rfl⟩ rfl rfl rfl rfl ?_ | refine G.pickF rfl ⟨_, rfl, rfl, rfl⟩ rfl rfl rfl rfl ?_
            first | refine G.pickT rfl trivial rfl rfl rfl rfl ?_ | refine G.pickF rfl trivial rfl rfl rfl rfl ?_
            refine G.nil ?_
            refine C.condF rfl ?_
            refine C.skip ?_
            refine C.region ?_
            refine G.moveI rfl trivial rfl rfl rfl ?_
            refine G.add rfl trivial rfl rfl rfl rfl (by omega) ?_
            refine G.assignI rfl trivial rfl rfl rfl ?_
            refine G.less (fun _ h => h.tail) ?_
            refine G.nil ?_
            exact ⟨1410 - (j + 1), by omega, j + 1, by omega, rfl, rfl, rfl, rfl, rfl, rfl, rfl⟩
          · intro hg90
            refine G.skip rfl rfl rfl rfl rfl rfl ?_
            refine G.skip rfl rfl rfl rfl rfl rfl ?_
            refine G.skip rfl rfl rfl rfl rfl rfl ?_
            refine G.skip rfl rfl rfl rfl rfl rfl ?_
            refine G.skip rfl rfl rfl rfl rfl rfl ?_
            refine G.skip rfl rfl rfl rfl rfl rfl ?_
            refine G.skip rfl rfl rfl rfl rfl rfl ?_
            refine G.skipU rfl rfl rfl rfl rfl rfl ?_
            refine G.skipU rfl rfl rfl rfl rfl rfl ?_
            refine G.skipU rfl rfl rfl rfl rfl rfl ?_
            refine G.skipU rfl rfl rfl rfl rfl rfl ?_
            refine G.skip rfl rfl rfl rfl rfl rfl ?_
            first | refine G.pickT rfl trivial rfl rfl rfl rfl ?_ | refine G.pickF rfl trivial rfl rfl rfl rfl ?_
            refine G.moveB rfl trivial rfl rfl rfl ?_
            refine G.moveI rfl ⟨_, rfl, rfl, rfl⟩ rfl rfl rfl ?_
            refine G.rem rfl ⟨_, rfl, rfl, rfl⟩ rfl rfl rfl rfl (by decide) ?_
            rw [show (j : Int).tmod 7 = ((j % 7 : Nat) : Int) by rw [Int.tmod_eq_emod_of_nonneg (by omega)]; omega]
            refine G.bin rfl ⟨_, rfl, rfl, rfl⟩ rfl rfl rfl rfl rfl ?_
            refine G.yes (t := 107) rfl (by omega) ?_
            refine G.moveB rfl ⟨_, rfl, rfl, rfl⟩ rfl rfl rfl ?_
            refine G.moveS rfl ⟨_, rfl, rfl, rfl⟩ rfl rfl rfl ?_
            refine G.indexAddr rfl ⟨_, rfl, rfl, rfl⟩ rfl rfl Try.underlying23 I5 rfl rfl (by omega) ?_
            refine G.load (v := .int .u8 0) rfl ⟨_, rfl, rfl, rfl⟩ rfl rfl Try.underlying5 rfl rfl (fun w hm => by show w.cell? ⟨p60, o60 + 0, none⟩ = _; rw [Rd.cell_at (j := 0) (hr60 W0 _) (by omega) w hm, if_neg (by omega), if_neg (by omega)]; rfl) ?_
            refine G.bin rfl ⟨_, rfl, rfl, rfl⟩ rfl rfl rfl rfl rfl ?_
            refine G.no (t := 112) rfl (by simp) ?_
            refine G.moveB rfl ⟨_, rfl, rfl, rfl⟩ rfl rfl rfl ?_
            refine G.moveS rfl ⟨_, rfl, rfl, rfl⟩ rfl rfl rfl ?_
            refine G.indexAddr rfl ⟨_, rfl, rfl, rfl⟩ rfl rfl Try.underlying23 I5 rfl rfl (by omega) ?_
            refine G.load (v := .int .u8 0) rfl ⟨_, rfl, rfl, rfl⟩ rfl rfl Try.underlying5 rfl rfl (fun w hm => by show w.cell? ⟨p60, o60 + 1, none⟩ = _; rw [Rd.cell_at (j := 1) (hr60 W0 _) (by omega) w hm, if_neg (by omega), if_neg (by omega)]; rfl) ?_
            refine G.bin rfl ⟨_, rfl, rfl, rfl⟩ rfl rfl rfl rfl rfl ?_
            refine G.no (t := 117) rfl (by simp) ?_
            first | refine G.pickT rfl ⟨_, rfl, rfl, rfl⟩ rfl rfl rfl rfl ?_ | refine G.pickF rfl ⟨_, rfl, rfl, rfl⟩ rfl rfl rfl rfl ?_
            first | refine G.pickT rfl ⟨_, rfl, rfl, rfl⟩ rfl rfl rfl rfl ?_ | refine G.pickF rfl ⟨_, rfl, rfl, rfl⟩ rfl rfl rfl rfl ?_
            first | refine G.pickT rfl trivial rfl rfl rfl rfl ?_ | refine G.pickF rfl trivial rfl rfl rfl rfl ?_
            refine G.nil ?_
            refine C.condF rfl ?_
            refine C.skip ?_
            refine C.region ?_
            refine G.moveI rfl trivial rfl rfl rfl ?_
            refine G.add rfl trivial rfl rfl rfl rfl (by omega) ?_
            refine G.assignI rfl trivial rfl rfl rfl ?_
            refine G.less (fun _ h => h.tail) ?_
            refine G.nil ?_
            exact ⟨1410 - (j + 1), by omega, j + 1, by omega, rfl, rfl, rfl, rfl, rfl, rfl, rfl⟩
      · intro hc5
        refine C.exit ?_
        refine C.seq ?_
        refine C.region ?_
        refine G.assignB rfl trivial rfl rfl rfl ?_
        refine G.nil ?_
        refine C.ret ?_
        -- end c2Fc3Fc5F
        exact ⟨rfl, _, Res.of (rs := [.tmp 4]) rfl rfl, rfl⟩
theorem apart_walk_no (W0 : World) (n : Int) (x : UInt8) (h : ¬ (0 ≤ n ∧ n < 96)) :
    FnS Try.prog W0 4 #[.int .i64 n, .int .u8 (x.toNat : Int)] [] (fun e _ => e = .returned (.bool true)) := by
  refine FnS.of (args := [.int .i64 n, .int .u8 (x.toNat : Int)]) Try.func4 rfl rfl ?_
  refine C.seq ?_
  refine C.region ?_
  refine G.assignB rfl trivial rfl rfl rfl ?_
  refine G.nil ?_
  refine C.seq ?_
  refine C.region ?_
  refine G.call E6 rfl rfl trivial rfl rfl (begun_spec W0 _) rfl ?_
  rintro e L2 ⟨rfl, rfl⟩
  refine G.assignB rfl trivial rfl rfl rfl ?_
  refine G.nil ?_
  refine C.seq ?_
  refine C.seq ?_
  refine C.region ?_
  refine G.moveB rfl trivial rfl rfl rfl ?_
  first | refine G.notD rfl trivial rfl rfl rfl ?_ | refine G.not rfl trivial rfl rfl rfl ?_
  refine G.nil ?_
  refine C.condF rfl ?_
  refine C.skip ?_
  refine C.seq ?_
  refine C.seq ?_
  refine C.region ?_
  refine G.moveI rfl trivial rfl rfl rfl ?_
  refine G.bin rfl trivial rfl rfl rfl rfl rfl ?_
  refine G.moveB rfl trivial rfl rfl rfl ?_
  refine G.fork (t := 19) _ rfl ?_ ?_
  · intro hg19
    refine G.skip rfl rfl rfl rfl rfl rfl ?_
    refine G.skip rfl rfl rfl rfl rfl rfl ?_
    first | refine G.pickT rfl trivial rfl rfl rfl rfl ?_ | refine G.pickF rfl trivial rfl rfl rfl rfl ?_
    refine G.nil ?_
    refine C.condT rfl ?_
    refine C.seq ?_
    refine C.region ?_
    refine G.assignB rfl trivial rfl rfl rfl ?_
    refine G.nil ?_
    refine C.ret ?_
    -- end g19T
    exact ⟨rfl, _, Res.of (rs := [.tmp 4]) rfl rfl, rfl⟩
  · intro hg19
    refine G.moveI rfl ⟨_, rfl, rfl, rfl⟩ rfl rfl rfl ?_
    refine G.bin rfl ⟨_, rfl, rfl, rfl⟩ rfl rfl rfl rfl rfl ?_
    first | refine G.pickT rfl trivial rfl rfl rfl rfl ?_ | refine G.pickF rfl trivial rfl rfl rfl rfl ?_
    refine G.nil ?_
    refine C.cond _ rfl ?_ ?_
    · intro hc1
      refine C.seq ?_
      refine C.region ?_
      refine G.assignB rfl trivial rfl rfl rfl ?_
      refine G.nil ?_
      refine C.ret ?_
      -- end g19Fc1T
      exact ⟨rfl, _, Res.of (rs := [.tmp 4]) rfl rfl, rfl⟩
    · intro hc1
      omega
end Go.Proofs.Ytljcnombncjnnaa
