/-
  The law DevKeeps, walked.
-/
import Derived.Test.YtooijfnimeoeaaaDl1
import Derived.Test.YtooijfnimeoeaaaSL9
namespace Go.Proofs.Ytooijfnimeoeaaa
open Go Go.SL Go.RowKit

theorem crashFrom_get (ks : List Bool) : ∀ (l : List Sec) (k j : Nat), (crashFrom ks l k)[j]? = l[j]?.map (fun s => kept ks s (k + loosN (l.take j)))
  | [], k, j => by simp [crashFrom]
  | s :: l, k, 0 => by simp [crashFrom, loosN]
  | s :: l, k, j + 1 => by
    simp only [crashFrom, List.getElem?_cons_succ, crashFrom_get ks l, List.take_succ_cons, loosN, List.countP_cons]
    cases l[j]? with
    | none => rfl
    | some x =>
      simp only [Option.map_some]
      congr 2
      split <;> omega
theorem crash_now (d : Dv) (ks : List Bool) {j : Nat} (hj : j < d.l.length) (h : j < (d.crash ks).l.length) : (d.crash ks).l[j].now = kept ks d.l[j] (loosN (d.l.take j)) := by
  have h1 := crashFrom_get ks d.l 0 j
  rw [List.getElem?_eq_getElem hj, Option.map_some, Nat.zero_add] at h1
  have h2 : (d.crash ks).l[j]? = some (both (kept ks d.l[j] (loosN (d.l.take j)))) := by
    show ((crashFrom ks d.l 0).map both)[j]? = _
    rw [List.getElem?_map, h1]
    rfl
  rw [List.getElem?_eq_getElem h] at h2
  rw [Option.some.inj h2]
  rfl
theorem looses_length : ∀ (l : List Sec) (k : Nat), (looses l k).length = loosN l
  | [], _ => rfl
  | s :: l, k => by
    simp only [looses, List.length_append, looses_length l, loosN, List.countP_cons]
    split <;> simp <;> omega
/-- the sectors behind n writes -/
def keepAt (n j : Nat) : Sec := if j % 2 = 1 ∧ 41 ≤ j + 2 * n then zeroSec.put [UInt8.ofNat ((39 - j) / 2 + 1)] else zeroSec
def keepsN (n : Nat) : List Sec := (List.range 40).map (keepAt n)
theorem keepsN_length (n : Nat) : (keepsN n).length = 40 := by simp [keepsN]
theorem keepsN_at {n j : Nat} (h : j < 40) : (keepsN n)[j]? = some (keepAt n j) := by
  simp only [keepsN, List.getElem?_map, List.getElem?_range h, Option.map_some]
theorem keepsN_zero : keepsN 0 = (newDv 40).l := by kernel_rfl
theorem keepsN_step {i : Nat} (hi : i < 20) : (keepsN i).modify (39 - 2 * i) (·.put [UInt8.ofNat (i + 1)]) = keepsN (i + 1) := by
  apply List.ext_getElem?
  intro j
  rw [List.getElem?_modify]
  by_cases h : j < 40
  · rw [keepsN_at h, keepsN_at h]
    simp only [Option.map_eq_map, Option.map_some]
    by_cases e : 39 - 2 * i = j
    · rw [if_pos e]
      unfold keepAt
      rw [if_neg (by omega), if_pos (by omega), show (39 - j) / 2 = i by omega]
    · rw [if_neg e]
      unfold keepAt
      by_cases h2 : j % 2 = 1 ∧ 41 ≤ j + 2 * i
      · rw [if_pos h2, if_pos (by omega)]
      · rw [if_neg h2, if_neg (by omega)]
  · rw [List.getElem?_eq_none (by rw [keepsN_length]; omega), List.getElem?_eq_none (by rw [keepsN_length]; omega)]
    rfl
theorem keepAt_loose (n j : Nat) : (keepAt n j).loose = decide (j % 2 = 1 ∧ 41 ≤ j + 2 * n) := by
  unfold keepAt
  by_cases h : j % 2 = 1 ∧ 41 ≤ j + 2 * n
  · rw [if_pos h, decide_eq_true h]; rfl
  · rw [if_neg h, decide_eq_false h]; rfl
theorem counts : (List.range 21).all (fun n => ((List.range 40).countP (fun j => decide (j % 2 = 1 ∧ 41 ≤ j + 2 * n)) == n) && (List.range n).all (fun i => ((List.range 40).take (39 - 2 * i)).countP (fun j => decide (j % 2 = 1 ∧ 41 ≤ j + 2 * n)) == n - 1 - i)) = true := by kernel_rfl
theorem loosN_keeps (n k : Nat) : loosN ((keepsN n).take k) = ((List.range 40).take k).countP (fun j => decide (j % 2 = 1 ∧ 41 ≤ j + 2 * n)) := by
  unfold loosN keepsN
  rw [← List.map_take, List.countP_map]
  congr 1
  funext j
  exact keepAt_loose n j
theorem loosN_all {n : Nat} (hn : n ≤ 20) : loosN (keepsN n) = n := by
  have h := List.all_eq_true.1 counts n (List.mem_range.2 (by omega))
  rw [Bool.and_eq_true] at h
  have h2 := loosN_keeps n 40
  rw [List.take_of_length_le (by rw [keepsN_length]; exact Nat.le_refl _), List.take_of_length_le (by simp)] at h2
  rw [h2]
  exact beq_iff_eq.1 h.1
theorem loosN_to {n i : Nat} (hn : n ≤ 20) (hi : i < n) : loosN ((keepsN n).take (39 - 2 * i)) = n - 1 - i := by
  have h := List.all_eq_true.1 counts n (List.mem_range.2 (by omega))
  rw [Bool.and_eq_true] at h
  rw [loosN_keeps]
  exact beq_iff_eq.1 (List.all_eq_true.1 h.2 i (List.mem_range.2 hi))
theorem keeps_now {n i : Nat} (hn : n ≤ 20) (hi : i < n) {d : Dv} (hd : d.l = keepsN n) (ks : List Bool) (h : 39 - 2 * i < (d.crash ks).l.length) :
    (d.crash ks).l[39 - 2 * i].now = if ks[n - 1 - i]?.getD false = true then over [UInt8.ofNat (i + 1)] zero64 else zero64 := by
  have hl : 39 - 2 * i < d.l.length := by rw [hd, keepsN_length]; omega
  have hs : d.l[39 - 2 * i] = zeroSec.put [UInt8.ofNat (i + 1)] := by
    have h1 := keepsN_at (n := n) (j := 39 - 2 * i) (by omega)
    rw [← hd, List.getElem?_eq_getElem hl] at h1
    rw [Option.some.inj h1]
    unfold keepAt
    rw [if_pos (by omega), show (39 - (39 - 2 * i)) / 2 = i by omega]
  rw [crash_now d ks hl h, hs, show loosN (d.l.take (39 - 2 * i)) = n - 1 - i by rw [hd]; exact loosN_to hn hi]
  rfl
theorem keeps_walk (W0 : World) (a1 : Option Addr) (c1 : Nat) (n : Nat) (ks : List Bool) (hn : n ≤ 20) (h1 : ks.length ≤ c1) (hm : ks.length ≤ 9223372036854775807) (r1 : ∀ L, Rd W0 L a1 (ks.map Value.bool)) :
    FnS Try.prog W0 8 #[.int .i64 (n : Int), .slice a1 ks.length c1] [] (fun e _ => e = .returned (.bool true)) := by
  refine FnS.of (args := [.int .i64 (n : Int), .slice a1 ks.length c1]) Try.func8 rfl rfl ?_
  refine C.seq ?_
  refine C.region ?_
  refine G.assignB rfl trivial rfl rfl rfl ?_
  refine G.nil ?_
  refine C.seq ?_
  refine C.region ?_
  refine G.call E9 rfl rfl trivial rfl rfl (beganD_spec W0 _) rfl ?_
  rintro e L2 ⟨rfl, rfl⟩
  refine G.assignB rfl trivial rfl rfl rfl ?_
  refine G.nil ?_
  refine C.seq ?_
  refine C.seq ?_
  refine C.region ?_
  refine G.moveB rfl trivial rfl rfl rfl ?_
  first | refine G.notD rfl trivial rfl rfl rfl ?_ | refine G.not rfl trivial rfl rfl rfl ?_
  refine G.nil ?_
  refine C.condF rfl ?_
  refine C.skip ?_
  refine C.seq ?_
  refine C.seq ?_
  refine C.region ?_
  refine G.moveI rfl trivial rfl rfl rfl ?_
  refine G.bin rfl trivial rfl rfl rfl rfl rfl ?_
  refine G.moveB rfl trivial rfl rfl rfl ?_
  refine G.no (t := 19) rfl (by omega) ?_
  refine G.moveI rfl ⟨_, rfl, rfl, rfl⟩ rfl rfl rfl ?_
  refine G.bin rfl ⟨_, rfl, rfl, rfl⟩ rfl rfl rfl rfl rfl ?_
  first | refine G.pickT rfl trivial rfl rfl rfl rfl ?_ | refine G.pickF rfl trivial rfl rfl rfl rfl ?_
  refine G.nil ?_
  refine C.no rfl (by omega) ?_
  refine C.skip ?_
  refine C.seq ?_
  refine C.region ?_
  refine G.call E10 rfl rfl trivial rfl rfl (new_spec W0 _ 40) rfl ?_
  rintro e L2 ⟨bd, bl, rfl, rfl⟩
  rw [show clampN 40 = 40 from rfl]
  have hok0 : (newDv 40).ok := newDv_ok (by decide)
  have hlive0 := newDv_live 40
  have hl0 : (newDv 40).l = keepsN 0 := keepsN_zero.symm
  generalize newDv 40 = d0 at *
  refine G.assignP rfl trivial rfl rfl rfl ?_
  refine G.nil ?_
  refine C.seq ?_
  refine C.seq ?_
  refine C.region ?_
  refine G.assignI rfl trivial rfl rfl rfl ?_
  refine G.nil ?_
  refine C.block ?_
  refine C.loop (fun m F D' L' => ∃ (i : Nat) (d : Dv), i ≤ n ∧ d.ok ∧ d.live ∧ d.l = keepsN i ∧ m = n - i ∧ F 7 = .int .i64 i ∧ F 6 = ptr bd ∧ F 0 = .int .i64 n ∧ F 1 = .slice a1 ks.length c1 ∧ D' = [] ∧ devSeg bd bl d :: [] = L') ⟨_, ⟨0, d0, by omega, hok0, hlive0, hl0, rfl, rfl, rfl, rfl, rfl, rfl, rfl⟩⟩ ?_
  rintro m F D' L' ⟨i, d, hi, hok, hlive, hl, rfl, h7, h6, h0', h1', rfl, rfl⟩
  refine C.fix (d := 7) h7 ?_
  refine C.fix (d := 6) h6 ?_
  refine C.fix (d := 0) h0' ?_
  refine C.fix (d := 1) h1' ?_
  refine C.seq ?_
  refine C.seq ?_
  refine C.region ?_
  refine G.moveI rfl trivial rfl rfl rfl ?_
  refine G.moveI rfl trivial rfl rfl rfl ?_
  refine G.bin rfl trivial rfl rfl rfl rfl rfl ?_
  refine G.nil ?_
  refine C.cond _ rfl ?_ ?_
  · intro hc2
    have hlt : i < n := by omega
    refine C.skip ?_
    refine C.seq ?_
    refine C.block ?_
    refine C.region ?_
    refine G.moveP rfl trivial rfl rfl rfl ?_
    refine G.moveI rfl trivial rfl rfl rfl ?_
    refine G.mul rfl trivial rfl rfl rfl rfl (by omega) ?_
    refine G.sub rfl trivial rfl rfl rfl rfl (by omega) ?_
    refine G.fix (d := 32) (v := .int .i64 ((39 - 2 * i : Nat) : Int)) (by show Value.int .i64 _ = _; congr 1; omega) ?_
    refine G.moveI rfl trivial rfl rfl rfl ?_
    refine G.add rfl trivial rfl rfl rfl rfl (by omega) ?_
    refine G.convInt rfl trivial rfl rfl Try.underlying3 Try.underlying5 rfl ?_
    refine G.fix (d := 35) (v := .int .u8 ((UInt8.ofNat (i + 1)).toNat : Int)) (u8_ofD (i + 1)) ?_
    refine G.buildSliceL (cs := [.int .u8 ((UInt8.ofNat (i + 1)).toNat : Int)]) (zs := [(.int .u8 0)]) rfl trivial rfl rfl Try.underlying31 I5 rfl (by kernel_rfl) rfl rfl ?_
    intro b36
    refine G.call E13 rfl rfl trivial rfl rfl (write_ok W0 [_] _ bd bl d hok hlive.notDead (39 - 2 * i) (by rw [hl, keepsN_length]; omega) _ 1 [UInt8.ofNat (i + 1)] (by simp) (Rd.row0 (cs := bytesV [UInt8.ofNat (i + 1)]) .here)) rfl ?_
    rintro e L2 ⟨rfl, rfl⟩
    refine G.less (fun _ h => h.tail) ?_
    refine G.nil ?_
    refine C.region ?_
    refine G.moveI rfl trivial rfl rfl rfl ?_
    refine G.add rfl trivial rfl rfl rfl rfl (by omega) ?_
    refine G.assignI rfl trivial rfl rfl rfl ?_
    refine G.nil ?_
    exact ⟨n - (i + 1), by omega, i + 1, d.put (39 - 2 * i) [UInt8.ofNat (i + 1)], by omega, Dv.put_ok hok hlive.notDead (by simp), live_put hlive _ _, by show d.l.modify _ _ = _; rw [hl]; exact keepsN_step (by omega), rfl, rfl, rfl, rfl, rfl, rfl, rfl⟩
  · intro hc2
    obtain rfl : i = n := by omega
    refine C.exit ?_
    refine C.seq ?_
    refine C.region ?_
    refine G.moveP rfl trivial rfl rfl rfl ?_
    refine G.moveS rfl trivial rfl rfl rfl ?_
    refine G.call E17 rfl rfl trivial rfl rfl (crash_spec W0 [] _ bd bl d hok (by rw [hl, keepsN_length]; decide) a1 c1 ks h1 (fun _ => r1 _)) rfl ?_
    rintro e L2 ⟨ba, bal, rfl, rfl⟩
    have haok := crash_ok hok ks
    have halen : (d.crash ks).l.length = 40 := by rw [crash_len, hl, keepsN_length]
    have hal := crash_looses d ks
    have hnow : ∀ j, j < i → ∀ h : 39 - 2 * j < (d.crash ks).l.length, (d.crash ks).l[39 - 2 * j].now = if ks[i - 1 - j]?.getD false = true then over [UInt8.ofNat (j + 1)] zero64 else zero64 := fun j hj h => keeps_now hn hj hl ks h
    generalize d.crash ks = da at *
    refine G.assignP rfl trivial rfl rfl rfl ?_
    refine G.nil ?_
    refine C.seq ?_
    refine C.seq ?_
    refine C.region ?_
    refine G.assignI rfl trivial rfl rfl rfl ?_
    refine G.nil ?_
    refine C.block ?_
    refine C.loop (fun m F D' L' => ∃ j : Nat, j ≤ i ∧ m = i - j ∧ F 9 = .int .i64 j ∧ F 8 = ptr ba ∧ F 6 = ptr bd ∧ F 0 = .int .i64 i ∧ F 1 = .slice a1 ks.length c1 ∧ D' = [] ∧ devSeg ba bal da :: devSeg bd bl d :: [] = L') ⟨_, ⟨0, by omega, rfl, rfl, rfl, rfl, rfl, rfl, rfl, rfl⟩⟩ ?_
    rintro m F D' L' ⟨j, hj, rfl, h9, h8, h6, h0', h1', rfl, rfl⟩
    refine C.fix (d := 9) h9 ?_
    refine C.fix (d := 8) h8 ?_
    refine C.fix (d := 6) h6 ?_
    refine C.fix (d := 0) h0' ?_
    refine C.fix (d := 1) h1' ?_
    refine C.seq ?_
    refine C.seq ?_
    refine C.region ?_
    refine G.moveI rfl trivial rfl rfl rfl ?_
    refine G.moveI rfl trivial rfl rfl rfl ?_
    refine G.bin rfl trivial rfl rfl rfl rfl rfl ?_
    refine G.nil ?_
    refine C.cond _ rfl ?_ ?_
    · intro hc3
      have hjl : j < i := by omega
      have hjd : 39 - 2 * j < da.l.length := by omega
      obtain ⟨q, hq⟩ : ∃ q, q = i - 1 - j := ⟨_, rfl⟩
      refine C.skip ?_
      refine C.seq ?_
      refine C.block ?_
      refine C.seq ?_
      refine C.region ?_
      refine G.moveP rfl trivial rfl rfl rfl ?_
      refine G.moveI rfl trivial rfl rfl rfl ?_
      refine G.mul rfl trivial rfl rfl rfl rfl (by omega) ?_
      refine G.sub rfl trivial rfl rfl rfl rfl (by omega) ?_
      refine G.fix (d := 50) (v := .int .i64 ((39 - 2 * j : Nat) : Int)) (by show Value.int .i64 _ = _; congr 1; omega) ?_
      refine G.call E21 rfl rfl trivial rfl rfl (read_ok W0 [] _ ba bal da haok (39 - 2 * j) hjd) rfl ?_
      rintro e L2 ⟨v, seg, hv, rfl, rfl⟩
      rw [hnow j hjl, ← hq] at hv
      have hv1 := hv.1
      obtain ⟨a51, c51, rfl, hr51⟩ := hv.form
      simp only [bytesV_length, Nat.mul_one] at hv1
      obtain ⟨p51, o51, rfl, _⟩ := (hr51 W0 []).some_ (by rw [bytesV_length]; omega)
      refine G.moveU rfl trivial rfl rfl rfl ?_
      refine G.extractL rfl trivial rfl rfl rfl rfl ?_
      refine G.extractL rfl trivial rfl rfl rfl rfl ?_
      refine G.assignS rfl trivial rfl rfl rfl ?_
      refine G.assignI rfl trivial rfl rfl rfl ?_
      refine G.nil ?_
      refine C.seq ?_
      refine C.region ?_
      refine G.moveI rfl trivial rfl rfl rfl ?_
      refine G.sub rfl trivial rfl rfl rfl rfl (by omega) ?_
      refine G.moveI rfl trivial rfl rfl rfl ?_
      refine G.sub rfl trivial rfl rfl rfl rfl (by omega) ?_
      refine G.fix (d := 57) (v := .int .i64 (q : Int)) (by show Value.int .i64 _ = _; congr 1; omega) ?_
      refine G.assignI rfl trivial rfl rfl rfl ?_
      refine G.nil ?_
      refine C.seq ?_
      refine C.region ?_
      refine G.assignI rfl trivial rfl rfl rfl ?_
      refine G.nil ?_
      refine C.seq ?_
      refine C.seq ?_
      refine C.region ?_
      refine G.moveI rfl trivial rfl rfl rfl ?_
      refine G.moveS rfl trivial rfl rfl rfl ?_
      refine G.lenSlice rfl trivial rfl rfl Try.underlying28 rfl ?_
      refine G.bin rfl trivial rfl rfl rfl rfl rfl ?_
      refine G.moveB rfl trivial rfl rfl rfl ?_
      refine G.fork (t := 62) _ rfl ?_ ?_
      · intro hg62
        have hqk : q < ks.length := by omega
        obtain ⟨p1, o1, rfl, rd1⟩ := (r1 []).some_ (by simp; omega)
        refine G.moveS rfl ⟨_, rfl, rfl, rfl⟩ rfl rfl rfl ?_
        refine G.moveI rfl ⟨_, rfl, rfl, rfl⟩ rfl rfl rfl ?_
        refine G.indexAddr rfl ⟨_, rfl, rfl, rfl⟩ rfl rfl Try.underlying28 I4 rfl rfl (by omega) ?_
        refine G.load (v := .bool ks[q]) rfl ⟨_, rfl, rfl, rfl⟩ rfl rfl Try.underlying4 rfl rfl (fun w hm => BoolRow.at r1 hqk w hm) ?_
        first | refine G.pickT rfl trivial rfl rfl rfl rfl ?_ | refine G.pickF rfl trivial rfl rfl rfl rfl ?_
        refine G.nil ?_
        refine C.condB _ rfl ?_ ?_
        · intro hc4
          refine C.region ?_
          refine G.moveI rfl trivial rfl rfl rfl ?_
          refine G.add rfl trivial rfl rfl rfl rfl (by omega) ?_
          refine G.convInt rfl trivial rfl rfl Try.underlying3 Try.underlying5 rfl ?_
          refine G.fix (d := 70) (v := .int .u8 ((UInt8.ofNat (j + 1)).toNat : Int)) (u8_ofD (j + 1)) ?_
          refine G.assignI rfl trivial rfl rfl rfl ?_
          refine G.nil ?_
          refine C.seq ?_
          refine C.region ?_
          refine G.moveI rfl trivial rfl rfl rfl ?_
          refine G.bin rfl trivial rfl rfl rfl rfl rfl ?_
          refine G.no (t := 72) rfl (by simp) ?_
          refine G.moveB rfl trivial rfl rfl rfl ?_
          refine G.moveS rfl ⟨_, rfl, rfl, rfl⟩ rfl rfl rfl ?_
          refine G.indexAddr rfl ⟨_, rfl, rfl, rfl⟩ rfl rfl Try.underlying31 I5 rfl rfl (by omega) ?_
          rw [List.getElem?_eq_getElem hqk, Option.getD_some, if_pos hc4] at hr51
          refine G.load (v := .int .u8 ((UInt8.ofNat (j + 1)).toNat : Int)) rfl ⟨_, rfl, rfl, rfl⟩ rfl rfl Try.underlying5 rfl rfl (fun w hm => Rd.cell_at (j := 0) (hr51 W0 _) (by rw [bytesV_length]; simp [over]) w hm) ?_
          refine G.moveI rfl ⟨_, rfl, rfl, rfl⟩ rfl rfl rfl ?_
          refine G.bin rfl ⟨_, rfl, rfl, rfl⟩ rfl rfl rfl rfl rfl ?_
          refine G.no (t := 78) rfl (by simp) ?_
          first | refine G.pickT rfl trivial rfl rfl rfl rfl ?_ | refine G.pickF rfl trivial rfl rfl rfl rfl ?_
          refine G.nil ?_
          refine C.condF rfl ?_
          refine C.skip ?_
          refine C.region ?_
          refine G.moveI rfl trivial rfl rfl rfl ?_
          refine G.add rfl trivial rfl rfl rfl rfl (by omega) ?_
          refine G.assignI rfl trivial rfl rfl rfl ?_
          refine G.less (fun _ h => h.tail) ?_
          refine G.nil ?_
          exact ⟨i - (j + 1), by omega, j + 1, by omega, rfl, rfl, rfl, rfl, rfl, rfl, rfl, rfl⟩
        · intro hc4
          refine C.skip ?_
          refine C.seq ?_
          refine C.region ?_
          refine G.moveI rfl trivial rfl rfl rfl ?_
          refine G.bin rfl trivial rfl rfl rfl rfl rfl ?_
          refine G.no (t := 72) rfl (by simp) ?_
          refine G.moveB rfl trivial rfl rfl rfl ?_
          refine G.moveS rfl ⟨_, rfl, rfl, rfl⟩ rfl rfl rfl ?_
          refine G.indexAddr rfl ⟨_, rfl, rfl, rfl⟩ rfl rfl Try.underlying31 I5 rfl rfl (by omega) ?_
          rw [List.getElem?_eq_getElem hqk, Option.getD_some, if_neg (by rw [hc4]; simp)] at hr51
          refine G.load (v := .int .u8 0) rfl ⟨_, rfl, rfl, rfl⟩ rfl rfl Try.underlying5 rfl rfl (fun w hm => Rd.cell_at (j := 0) (hr51 W0 _) (by rw [bytesV_length]; decide) w hm) ?_
          refine G.moveI rfl ⟨_, rfl, rfl, rfl⟩ rfl rfl rfl ?_
          refine G.bin rfl ⟨_, rfl, rfl, rfl⟩ rfl rfl rfl rfl rfl ?_
          refine G.no (t := 78) rfl (by simp) ?_
          first | refine G.pickT rfl trivial rfl rfl rfl rfl ?_ | refine G.pickF rfl trivial rfl rfl rfl rfl ?_
          refine G.nil ?_
          refine C.condF rfl ?_
          refine C.skip ?_
          refine C.region ?_
          refine G.moveI rfl trivial rfl rfl rfl ?_
          refine G.add rfl trivial rfl rfl rfl rfl (by omega) ?_
          refine G.assignI rfl trivial rfl rfl rfl ?_
          refine G.less (fun _ h => h.tail) ?_
          refine G.nil ?_
          exact ⟨i - (j + 1), by omega, j + 1, by omega, rfl, rfl, rfl, rfl, rfl, rfl, rfl, rfl⟩
      · intro hg62
        refine G.skip rfl rfl rfl rfl rfl rfl ?_
        refine G.skip rfl rfl rfl rfl rfl rfl ?_
        refine G.skip rfl rfl rfl rfl rfl rfl ?_
        refine G.skip rfl rfl rfl rfl rfl rfl ?_
        first | refine G.pickT rfl trivial rfl rfl rfl rfl ?_ | refine G.pickF rfl trivial rfl rfl rfl rfl ?_
        refine G.nil ?_
        refine C.condF rfl ?_
        refine C.skip ?_
        refine C.seq ?_
        refine C.region ?_
        refine G.moveI rfl trivial rfl rfl rfl ?_
        refine G.bin rfl trivial rfl rfl rfl rfl rfl ?_
        refine G.no (t := 72) rfl (by simp) ?_
        refine G.moveB rfl trivial rfl rfl rfl ?_
        refine G.moveS rfl ⟨_, rfl, rfl, rfl⟩ rfl rfl rfl ?_
        refine G.indexAddr rfl ⟨_, rfl, rfl, rfl⟩ rfl rfl Try.underlying31 I5 rfl rfl (by omega) ?_
        rw [List.getElem?_eq_none (by omega), Option.getD_none, if_neg (by simp)] at hr51
        refine G.load (v := .int .u8 0) rfl ⟨_, rfl, rfl, rfl⟩ rfl rfl Try.underlying5 rfl rfl (fun w hm => Rd.cell_at (j := 0) (hr51 W0 _) (by rw [bytesV_length]; decide) w hm) ?_
        refine G.moveI rfl ⟨_, rfl, rfl, rfl⟩ rfl rfl rfl ?_
        refine G.bin rfl ⟨_, rfl, rfl, rfl⟩ rfl rfl rfl rfl rfl ?_
        refine G.no (t := 78) rfl (by simp) ?_
        first | refine G.pickT rfl trivial rfl rfl rfl rfl ?_ | refine G.pickF rfl trivial rfl rfl rfl rfl ?_
        refine G.nil ?_
        refine C.condF rfl ?_
        refine C.skip ?_
        refine C.region ?_
        refine G.moveI rfl trivial rfl rfl rfl ?_
        refine G.add rfl trivial rfl rfl rfl rfl (by omega) ?_
        refine G.assignI rfl trivial rfl rfl rfl ?_
        refine G.less (fun _ h => h.tail) ?_
        refine G.nil ?_
        exact ⟨i - (j + 1), by omega, j + 1, by omega, rfl, rfl, rfl, rfl, rfl, rfl, rfl, rfl⟩
    · intro hc3
      refine C.exit ?_
      refine C.seq ?_
      refine C.region ?_
      refine G.moveP rfl trivial rfl rfl rfl ?_
      refine G.call E22 rfl rfl trivial rfl rfl (loose_spec W0 [] _ ba bal da haok) rfl ?_
      rintro e L2 ⟨v, seg, hv, rfl, rfl⟩
      rw [hal] at hv
      obtain ⟨a81, c81, rfl, hr81⟩ := hv.form
      refine G.lenSlice rfl trivial rfl rfl Try.underlying46 rfl ?_
      refine G.bin rfl trivial rfl rfl rfl rfl rfl ?_
      refine G.yes (t := 83) rfl rfl ?_
      refine G.moveB rfl trivial rfl rfl rfl ?_
      refine G.moveP rfl ⟨_, rfl, rfl, rfl⟩ rfl rfl rfl ?_
      refine G.call E22 rfl rfl ⟨_, rfl, rfl, rfl⟩ rfl rfl (loose_spec W0 [_, _] _ bd bl d hok) rfl ?_
      rintro e L2 ⟨v, seg2, hv2, rfl, rfl⟩
      rw [looses_length, hl, loosN_all hn] at hv2
      obtain ⟨a86, c86, rfl, hr86⟩ := hv2.form
      refine G.lenSlice rfl ⟨_, rfl, rfl, rfl⟩ rfl rfl Try.underlying46 rfl ?_
      refine G.moveI rfl ⟨_, rfl, rfl, rfl⟩ rfl rfl rfl ?_
      refine G.bin rfl ⟨_, rfl, rfl, rfl⟩ rfl rfl rfl rfl rfl ?_
      refine G.yes (t := 89) rfl rfl ?_
      first | refine G.pickT rfl trivial rfl rfl rfl rfl ?_ | refine G.pickF rfl trivial rfl rfl rfl rfl ?_
      refine G.assignB rfl trivial rfl rfl rfl ?_
      refine G.nil ?_
      refine C.ret ?_
      -- end c2Fc3F
      exact ⟨rfl, _, Res.of (rs := [.tmp 4]) rfl rfl, rfl⟩
theorem keeps_walk_no (W0 : World) (a1 : Option Addr) (m1 c1 : Nat) (n : Int) (h : ¬ (0 ≤ n ∧ n ≤ 20)) :
    FnS Try.prog W0 8 #[.int .i64 n, .slice a1 m1 c1] [] (fun e _ => e = .returned (.bool true)) := by
  refine FnS.of (args := [.int .i64 n, .slice a1 m1 c1]) Try.func8 rfl rfl ?_
  refine C.seq ?_
  refine C.region ?_
  refine G.assignB rfl trivial rfl rfl rfl ?_
  refine G.nil ?_
  refine C.seq ?_
  refine C.region ?_
  refine G.call E9 rfl rfl trivial rfl rfl (beganD_spec W0 _) rfl ?_
  rintro e L2 ⟨rfl, rfl⟩
  refine G.assignB rfl trivial rfl rfl rfl ?_
  refine G.nil ?_
  refine C.seq ?_
  refine C.seq ?_
  refine C.region ?_
  refine G.moveB rfl trivial rfl rfl rfl ?_
  first | refine G.notD rfl trivial rfl rfl rfl ?_ | refine G.not rfl trivial rfl rfl rfl ?_
  refine G.nil ?_
  refine C.condF rfl ?_
  refine C.skip ?_
  refine C.seq ?_
  refine C.seq ?_
  refine C.region ?_
  refine G.moveI rfl trivial rfl rfl rfl ?_
  refine G.bin rfl trivial rfl rfl rfl rfl rfl ?_
  refine G.moveB rfl trivial rfl rfl rfl ?_
  refine G.fork (t := 19) _ rfl ?_ ?_
  · intro hg19
    refine G.skip rfl rfl rfl rfl rfl rfl ?_
    refine G.skip rfl rfl rfl rfl rfl rfl ?_
    first | refine G.pickT rfl trivial rfl rfl rfl rfl ?_ | refine G.pickF rfl trivial rfl rfl rfl rfl ?_
    refine G.nil ?_
    refine C.condT rfl ?_
    refine C.seq ?_
    refine C.region ?_
    refine G.assignB rfl trivial rfl rfl rfl ?_
    refine G.nil ?_
    refine C.ret ?_
    -- end g19T
    exact ⟨rfl, _, Res.of (rs := [.tmp 4]) rfl rfl, rfl⟩
  · intro hg19
    refine G.moveI rfl ⟨_, rfl, rfl, rfl⟩ rfl rfl rfl ?_
    refine G.bin rfl ⟨_, rfl, rfl, rfl⟩ rfl rfl rfl rfl rfl ?_
    first | refine G.pickT rfl trivial rfl rfl rfl rfl ?_ | refine G.pickF rfl trivial rfl rfl rfl rfl ?_
    refine G.nil ?_
    refine C.cond _ rfl ?_ ?_
    · intro hc1
      refine C.seq ?_
      refine C.region ?_
      refine G.assignB rfl trivial rfl rfl rfl ?_
      refine G.nil ?_
      refine C.ret ?_
      -- end g19Fc1T
      exact ⟨rfl, _, Res.of (rs := [.tmp 4]) rfl rfl, rfl⟩
    · intro hc1
      omega
end Go.Proofs.Ytooijfnimeoeaaa
