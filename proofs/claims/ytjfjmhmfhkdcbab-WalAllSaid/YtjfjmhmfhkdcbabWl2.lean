/-
  The log: bytes of the ring, read and put; the ring read from the device; walked.
-/
import Derived.Test.YtjfjmhmfhkdcbabWl1
namespace Go.Proofs.Ytjfjmhmfhkdcbab
open Go Go.SL Go.RowKit

def dby (d : Dv) (p : Nat) : UInt8 := ((nowAt d (386 + p / 64))[p % 64]?).getD 0
theorem tmod_nat (a b : Nat) : ((a : Int).tmod (b : Int)) = ((a % b : Nat) : Int) := (Int.ofNat_tmod a b).symm
theorem take1 (xs : List UInt8) {i : Nat} (h : i < xs.length) : xs.take (i + 1) = xs.take i ++ [xs[i]] := by rw [List.take_succ_eq_append_getElem h]
theorem putR_one (R : Nat → UInt8) (e : Nat) (c : UInt8) : putR R e [c] = fun p => if p = e % 65536 then c else R p := rfl
theorem ringV_load {R : Nat → UInt8} {cs : List Value} (h : ringV R cs) {x : List UInt8} (hx : x.length = 64) {i : Nat} (hi : i < 1024) (D : Nat → UInt8) (hD : ∀ j, j < 64 → D (64 * i + j) = x[j]?.getD 0) (hR : ∀ p, R p = if p < 64 * i then D p else R p) :
    ringV (fun p => if p < 64 * (i + 1) then D p else R p) (cs.take (64 * i) ++ bytesV x ++ cs.drop (64 * i + 64)) := by
  have hl := h.1
  have hbl : (bytesV x).length = 64 := by rw [bytesV_length, hx]
  have e1 : (cs.take (64 * i)).length = 64 * i := by rw [List.length_take, hl, Nat.min_eq_left (by omega)]
  refine ⟨by rw [List.length_append, List.length_append, e1, hbl, List.length_drop, hl]; omega, fun p hp => ?_⟩
  by_cases h1 : p < 64 * i
  · rw [List.append_assoc, List.getElem?_append_left (by omega), List.getElem?_take, if_pos h1, h.2 p hp, hR p, if_pos h1]
    simp only [if_pos (show p < 64 * (i + 1) by omega)]
  · by_cases h2 : p < 64 * (i + 1)
    · rw [List.getElem?_append_left (by rw [List.length_append, e1, hbl]; omega), List.getElem?_append_right (by omega), e1]
      simp only [if_pos h2]
      have := hD (p - 64 * i) (by omega)
      rw [show 64 * i + (p - 64 * i) = p by omega] at this
      rw [this, bytesV_at (show p - 64 * i < x.length by omega), List.getElem?_eq_getElem (show p - 64 * i < x.length by omega)]
      rfl
    · rw [List.getElem?_append_right (by rw [List.length_append, e1, hbl]; omega), List.length_append, e1, hbl, List.getElem?_drop, show 64 * i + 64 + (p - (64 * i + 64)) = p by omega, h.2 p hp]
      simp only [if_neg h2]
theorem lr_splice {bd bs : Nat} {cs : List Value} {base forced end_ : Int} {v : Value} {bad : Bool} (h : cs.length = 65536) {vs : List Value} {i : Nat} (hv : vs.length = 64) (hi : i < 1024) :
    (logRow bd bs cs base forced end_ v bad).take (2 + 64 * i) ++ vs ++ (logRow bd bs cs base forced end_ v bad).drop (2 + 64 * i + vs.length) = logRow bd bs (cs.take (64 * i) ++ vs ++ cs.drop (64 * i + 64)) base forced end_ v bad := by
  show (ptr bd :: ptr bs :: (cs ++ _)).take (2 + 64 * i) ++ vs ++ (ptr bd :: ptr bs :: (cs ++ _)).drop (2 + 64 * i + vs.length) = _
  rw [hv, show 2 + 64 * i = (64 * i) + 1 + 1 by omega, show 64 * i + 1 + 1 + 64 = (64 * i + 64) + 1 + 1 by omega, List.take_succ_cons, List.take_succ_cons, List.drop_succ_cons, List.drop_succ_cons, List.take_append_of_le_length (by omega), List.drop_append_of_le_length (by omega)]
  simp
section
variable (W0 : World) (S L0 : List Seg) (bg bs bd bl : Nat)
theorem lat_spec (L : List Seg) (e : Nat) (he : e < 1099511627776) : FnS Try.prog W0 39 #[ptr bg, .int .i64 (e : Int)] L (fun r L' => L' = L ∧ r = .returned (.pointer (some ⟨bg, 2 + e % 65536, none⟩))) := by
  refine FnS.of (args := [ptr bg, .int .i64 (e : Int)]) Try.func39 rfl rfl ?_
  refine C.seq ?_
  refine C.region ?_
  refine G.assignP rfl trivial rfl rfl rfl ?_
  refine G.nil ?_
  refine C.seq ?_
  refine C.region ?_
  refine G.moveP rfl trivial rfl rfl rfl ?_
  refine G.moveI rfl trivial rfl rfl rfl ?_
  refine G.rem rfl trivial rfl rfl rfl rfl (by omega) ?_
  refine G.fix (d := 7) (v := .int .i64 ((e % 65536 : Nat) : Int)) (by show Value.int .i64 _ = _; exact congrArg _ (tmod_nat e 65536)) ?_
  first | refine G.nilCheckP rfl trivial rfl rfl rfl ?_ | refine G.nilCheckF rfl trivial rfl rfl rfl ?_
  refine G.fieldAddr rfl trivial rfl rfl Try.underlying66 rfl I63 rfl rfl ?_
  refine G.indexAddrArr rfl trivial rfl rfl Try.underlying63 I5 rfl rfl (by omega) ?_
  refine G.fix (d := 10) (v := .pointer (some ⟨bg, 2 + e % 65536, none⟩)) (by show Value.pointer (some ⟨bg, 0 + 2 + ((e % 65536 : Nat) : Int).toNat * 1, none⟩) = _; rw [show 0 + 2 + ((e % 65536 : Nat) : Int).toNat * 1 = 2 + e % 65536 by omega]) ?_
  refine G.assignP rfl trivial rfl rfl rfl ?_
  refine G.nil ?_
  refine C.ret ?_
  -- end 
  exact ⟨rfl, _, Res.of (rs := [.tmp 4]) rfl rfl, rfl, rfl⟩
theorem lget_spec (g : Lg) (sg : Seg) (hsg : LgIs bg bs bd g sg) (xs : List UInt8) (from_ to : Nat) (hto : to = from_ + xs.length) (hlen : xs.length ≤ 65536) (hto2 : to < 1099511627776) (hh : Has g.R from_ xs) :
    FnS Try.prog W0 32 #[ptr bg, .int .i64 (from_ : Int), .int .i64 (to : Int)] (S ++ (sg :: L0)) (fun r L' => ∃ v s, OwnS v xs.length (bytesV xs) 5 1 s ∧ L' = s :: (S ++ (sg :: L0)) ∧ r = .returned v) := by
  obtain ⟨cs, v0, es, hcs, hes, rfl⟩ := hsg
  subst hto
  refine FnS.of (args := [ptr bg, .int .i64 (from_ : Int), .int .i64 ((from_ + xs.length : Nat) : Int)]) Try.func32 rfl rfl ?_
  refine C.seq ?_
  refine C.region ?_
  refine G.assignS rfl trivial rfl rfl rfl ?_
  refine G.nil ?_
  refine C.seq ?_
  refine C.region ?_
  refine G.moveI rfl trivial rfl rfl rfl ?_
  refine G.moveI rfl trivial rfl rfl rfl ?_
  refine G.sub rfl trivial rfl rfl rfl rfl (by omega) ?_
  refine G.fix (d := 10) (v := .int .i64 (xs.length : Int)) (by show Value.int .i64 _ = _; congr 1; omega) ?_
  refine G.makeBytes (l := 0) (c := xs.length) rfl trivial rfl rfl Try.underlying34 I5 rfl rfl (by omega) ?_
  intro b11
  refine G.less (fun _ h => h.forget .here 0) ?_
  refine G.assignS rfl trivial rfl rfl rfl ?_
  refine G.nil ?_
  refine C.seq ?_
  refine C.block ?_
  refine C.loop (fun m F D' L' => ∃ (i : Nat) (a : Option Addr) (c : Nat) (s : Seg), i ≤ xs.length ∧ OwnS (.slice a i c) i (bytesV (xs.take i)) 5 1 s ∧ m = xs.length - i ∧ F 1 = .int .i64 ((from_ + i : Nat) : Int) ∧ F 2 = .int .i64 ((from_ + xs.length : Nat) : Int) ∧ F 7 = .slice a i c ∧ F 0 = ptr bg ∧ D' = [] ∧ s :: (S ++ (((bg, .row (logRow bd bs cs g.base g.forced g.end_ v0 g.bad) 66 65543) :: es) :: L0)) = L') ⟨_, ⟨0, _, xs.length, _, by omega, OwnS.mk (by simp) (by omega) (by omega), rfl, rfl, rfl, rfl, rfl, rfl, rfl⟩⟩ ?_
  rintro m F D' L' ⟨i, a, c, s, hi, ho, rfl, h1', h2', h7, h0', rfl, rfl⟩
  refine C.fix (d := 1) h1' ?_
  refine C.fix (d := 2) h2' ?_
  refine C.fix (d := 7) h7 ?_
  refine C.fix (d := 0) h0' ?_
  refine C.seq ?_
  refine C.seq ?_
  refine C.region ?_
  refine G.moveI rfl trivial rfl rfl rfl ?_
  refine G.moveI rfl trivial rfl rfl rfl ?_
  refine G.bin rfl trivial rfl rfl rfl rfl rfl ?_
  refine G.nil ?_
  refine C.cond _ rfl ?_ ?_
  · intro hc0
    have hlt : i < xs.length := by omega
    have hb := hh i hlt
    have hp : (from_ + i) % 65536 < 65536 := Nat.mod_lt _ (by decide)
    refine C.skip ?_
    refine C.seq ?_
    refine C.block ?_
    refine C.region ?_
    refine G.moveS rfl trivial rfl rfl rfl ?_
    refine G.moveP rfl trivial rfl rfl rfl ?_
    refine G.moveI rfl trivial rfl rfl rfl ?_
    refine G.call E39 rfl rfl trivial rfl rfl (lat_spec W0 bg _ (from_ + i) (by omega)) rfl ?_
    rintro e L2 ⟨rfl, rfl⟩
    first | refine G.nilCheckP rfl trivial rfl rfl rfl ?_ | refine G.nilCheckF rfl trivial rfl rfl rfl ?_
    refine G.loadAt (v := .int .u8 (xs[i].toNat : Int)) (.next (.app .here)) rfl trivial rfl rfl Try.underlying5 rfl rfl (by rw [lr_byte hcs.1 hp, hcs.2 _ hp, hb]; rfl) ?_
    refine G.buildSliceL (cs := [.int .u8 (xs[i].toNat : Int)]) (zs := [(.int .u8 0)]) rfl trivial rfl rfl Try.underlying34 I5 rfl (by kernel_rfl) rfl rfl ?_
    intro b23
    refine G.less (fun _ h => h.perm2) ?_
    refine G.append ho rfl trivial rfl rfl Try.underlying34 Try.underlying34 I5 rfl (by decide) rfl rfl (by decide) (Rd.row0 (cs := bytesV [xs[i]]) (.next .here)) rfl bytesV_ok (by omega) ?_
    intro v2 s2 hv2
    obtain ⟨a2, c2, rfl, _⟩ := hv2.form
    refine G.less (fun _ h => h.skip1) ?_
    refine G.assignS rfl trivial rfl rfl rfl ?_
    refine G.nil ?_
    refine C.region ?_
    refine G.moveI rfl trivial rfl rfl rfl ?_
    refine G.add rfl trivial rfl rfl rfl rfl (by omega) ?_
    refine G.assignI rfl trivial rfl rfl rfl ?_
    refine G.nil ?_
    exact ⟨xs.length - (i + 1), by omega, i + 1, a2, c2, s2, by omega, by rw [take1 xs hlt, bytesV_append]; exact hv2, rfl, by congr 1, rfl, rfl, rfl, rfl, rfl⟩
  · intro hc0
    obtain rfl : i = xs.length := by omega
    rw [List.take_length] at ho
    refine C.exit ?_
    refine C.seq ?_
    refine C.region ?_
    refine G.moveS rfl trivial rfl rfl rfl ?_
    refine G.assignS rfl trivial rfl rfl rfl ?_
    refine G.nil ?_
    refine C.ret ?_
    -- end c0F
    exact ⟨rfl, _, Res.of (rs := [.tmp 6]) rfl rfl, _, s, ho, rfl, rfl⟩
theorem lput_spec (g : Lg) (sg : Seg) (hsg : LgIs bg bs bd g sg) (xs : List UInt8) (a : Option Addr) (c l : Nat) (hl : l = xs.length) (hlen : xs.length ≤ 65536) (hend : g.end_ + xs.length < 1099511627776) (hr : ∀ S : List Seg, Rd W0 (S ++ L0) a (bytesV xs)) :
    FnS Try.prog W0 25 #[ptr bg, .slice a l c] (sg :: L0) (fun r L' => ∃ sg', LgIs bg bs bd { g with R := putR g.R g.end_ xs, end_ := g.end_ + xs.length } sg' ∧ L' = sg' :: L0 ∧ r = .returned (.tuple #[])) := by
  obtain ⟨cs, v0, es, hcs, hes, rfl⟩ := hsg
  subst hl
  refine FnS.of (args := [ptr bg, .slice a xs.length c]) Try.func25 rfl rfl ?_
  refine C.seq ?_
  refine C.region ?_
  refine G.moveS rfl trivial rfl rfl rfl ?_
  refine G.lenSlice rfl trivial rfl rfl Try.underlying34 rfl ?_
  refine G.moveI rfl trivial rfl rfl rfl ?_
  refine G.nil ?_
  refine C.block ?_
  refine C.loop (fun m F D' L' => ∃ (i : Nat) (cs : List Value), i ≤ xs.length ∧ ringV (putR g.R g.end_ (xs.take i)) cs ∧ m = xs.length - i ∧ F 8 = .int .i64 (i : Int) ∧ F 7 = .int .i64 (xs.length : Int) ∧ F 6 = .slice a xs.length c ∧ F 0 = ptr bg ∧ D' = [] ∧ ((bg, .row (logRow bd bs cs g.base g.forced ((g.end_ + i : Nat) : Int) v0 g.bad) 66 65543) :: es) :: L0 = L') ⟨_, ⟨0, cs, by omega, hcs, rfl, rfl, rfl, rfl, rfl, rfl, rfl⟩⟩ ?_
  rintro m F D' L' ⟨i, cs, hi, hcs, rfl, h8, h7, h6, h0', rfl, rfl⟩
  refine C.fix (d := 8) h8 ?_
  refine C.fix (d := 7) h7 ?_
  refine C.fix (d := 6) h6 ?_
  refine C.fix (d := 0) h0' ?_
  refine C.seq ?_
  refine C.region ?_
  refine G.bin rfl trivial rfl rfl rfl rfl rfl ?_
  refine G.nil ?_
  refine C.seq ?_
  refine C.cond _ rfl ?_ ?_
  · intro hc0
    have hlt : i < xs.length := by omega
    obtain ⟨p, q, rfl, _⟩ := (hr []).some_ (by simp; omega)
    have hp : (g.end_ + i) % 65536 < 65536 := Nat.mod_lt _ (by decide)
    refine C.skip ?_
    refine C.seq ?_
    refine C.block ?_
    refine C.seq ?_
    refine C.region ?_
    refine G.indexAddr rfl trivial rfl rfl Try.underlying34 I5 rfl rfl (by omega) ?_
    refine G.load (v := .int .u8 (xs[i].toNat : Int)) rfl trivial rfl rfl Try.underlying5 rfl rfl (fun w hm => by have h := Rd.cell_at (j := i) (hr [_]) (by simpa using hlt) w hm; rw [bytesV_at hlt] at h; simpa using h) ?_
    refine G.assignI rfl trivial rfl rfl rfl ?_
    refine G.nil ?_
    refine C.seq ?_
    refine C.region ?_
    refine G.moveP rfl trivial rfl rfl rfl ?_
    refine G.moveP rfl trivial rfl rfl rfl ?_
    first | refine G.nilCheckP rfl trivial rfl rfl rfl ?_ | refine G.nilCheckF rfl trivial rfl rfl rfl ?_
    refine G.fieldAddr rfl trivial rfl rfl Try.underlying66 rfl I2 rfl rfl ?_
    refine G.loadAt (v := .int .i64 ((g.end_ + i : Nat) : Int)) .here rfl trivial rfl rfl Try.underlying2 rfl rfl (lr_end hcs.1) ?_
    refine G.call E39 rfl rfl trivial rfl rfl (lat_spec W0 bg _ (g.end_ + i) (by omega)) rfl ?_
    rintro e L2 ⟨rfl, rfl⟩
    refine G.moveI rfl trivial rfl rfl rfl ?_
    first | refine G.nilCheckP rfl trivial rfl rfl rfl ?_ | refine G.nilCheckF rfl trivial rfl rfl rfl ?_
    refine G.store (v := .int .u8 (xs[i].toNat : Int)) .here rfl trivial rfl I5 rfl rfl rfl (by rw [lr_length hcs.1]; omega) _ (lr_setByte hcs.1 hp _) ?_
    refine G.nil ?_
    refine C.region ?_
    refine G.moveP rfl trivial rfl rfl rfl ?_
    first | refine G.nilCheckP rfl trivial rfl rfl rfl ?_ | refine G.nilCheckF rfl trivial rfl rfl rfl ?_
    refine G.fieldAddr rfl trivial rfl rfl Try.underlying66 rfl I2 rfl rfl ?_
    refine G.loadAt (v := .int .i64 ((g.end_ + i : Nat) : Int)) .here rfl trivial rfl rfl Try.underlying2 rfl rfl (lr_end (ringV_set hcs _ xs[i]).1) ?_
    refine G.add rfl trivial rfl rfl rfl rfl (by omega) ?_
    refine G.fix (d := 24) (v := .int .i64 ((g.end_ + (i + 1) : Nat) : Int)) (by show Value.int .i64 _ = _; congr 1) ?_
    first | refine G.nilCheckP rfl trivial rfl rfl rfl ?_ | refine G.nilCheckF rfl trivial rfl rfl rfl ?_
    refine G.fieldAddr rfl trivial rfl rfl Try.underlying66 rfl I2 rfl rfl ?_
    refine G.store (v := .int .i64 ((g.end_ + (i + 1) : Nat) : Int)) .here rfl trivial rfl I2 rfl rfl rfl (Nat.lt_of_lt_of_eq (by decide) (lr_length (ringV_set hcs _ xs[i]).1).symm) _ (lr_setEnd (ringV_set hcs _ xs[i]).1 _) ?_
    refine G.nil ?_
    refine C.region ?_
    refine G.add rfl trivial rfl rfl rfl rfl (by omega) ?_
    refine G.moveI rfl trivial rfl rfl rfl ?_
    refine G.nil ?_
    exact ⟨xs.length - (i + 1), by omega, i + 1, _, by omega, by rw [take1 xs hlt, putR_append, List.length_take, Nat.min_eq_left (by omega), putR_one]; exact ringV_set hcs _ _, rfl, rfl, rfl, rfl, rfl, rfl, rfl⟩
  · intro hc0
    obtain rfl : i = xs.length := by omega
    rw [List.take_length] at hcs
    refine C.exit ?_
    -- end c0F
    exact ⟨rfl, _, Res.of (rs := []) rfl rfl, _, ⟨cs, v0, es, hcs, hes, rfl⟩, rfl, rfl⟩
theorem dby_at (d : Dv) {i j : Nat} (hj : j < 64) : dby d (64 * i + j) = (nowAt d (386 + i))[j]?.getD 0 := by
  unfold dby
  rw [show (64 * i + j) / 64 = i by omega, show (64 * i + j) % 64 = j by omega]
theorem load_spec (g : Lg) (sg : Seg) (hsg : LgIs bg bs bd g sg) (d : Dv) (hd : d.ok) (hn : d.l.length = 1410) :
    FnS Try.prog W0 22 #[ptr bg] (sg :: (S ++ (devSeg bd bl d :: L0))) (fun r L' => ∃ sg', LgIs bg bs bd { g with R := dby d } sg' ∧ L' = sg' :: (S ++ (devSeg bd bl d :: L0)) ∧ r = .returned (.int .i64 0)) := by
  obtain ⟨cs, v0, es, hcs, hes, rfl⟩ := hsg
  refine FnS.of (args := [ptr bg]) Try.func22 rfl rfl ?_
  refine C.seq ?_
  refine C.region ?_
  refine G.assignI rfl trivial rfl rfl rfl ?_
  refine G.nil ?_
  refine C.seq ?_
  refine C.seq ?_
  refine C.region ?_
  refine G.moveI rfl trivial rfl rfl rfl ?_
  refine G.nil ?_
  refine C.block ?_
  refine C.loop (fun m F D' L' => ∃ (i : Nat) (R : Nat → UInt8) (cs : List Value), i ≤ 1024 ∧ (∀ p, R p = if p < 64 * i then dby d p else R p) ∧ ringV R cs ∧ m = 1024 - i ∧ F 6 = .int .i64 (i : Int) ∧ F 0 = ptr bg ∧ D' = [] ∧ ((bg, .row (logRow bd bs cs g.base g.forced g.end_ v0 g.bad) 66 65543) :: es) :: (S ++ (devSeg bd bl d :: L0)) = L') ⟨_, ⟨0, g.R, cs, by omega, fun p => by simp, hcs, rfl, rfl, rfl, rfl, rfl⟩⟩ ?_
  rintro m F D' L' ⟨i, R, cs, hi, hR, hcs, rfl, h6, h0', rfl, rfl⟩
  refine C.fix (d := 6) h6 ?_
  refine C.fix (d := 0) h0' ?_
  refine C.seq ?_
  refine C.region ?_
  refine G.bin rfl trivial rfl rfl rfl rfl rfl ?_
  refine G.nil ?_
  refine C.seq ?_
  refine C.cond _ rfl ?_ ?_
  · intro hc0
    have hlt : i < 1024 := by omega
    refine C.skip ?_
    refine C.seq ?_
    refine C.block ?_
    refine C.seq ?_
    refine C.region ?_
    refine G.moveI rfl trivial rfl rfl rfl ?_
    refine G.assignI rfl trivial rfl rfl rfl ?_
    refine G.nil ?_
    refine C.seq ?_
    refine C.region ?_
    refine G.moveP rfl trivial rfl rfl rfl ?_
    first | refine G.nilCheckP rfl trivial rfl rfl rfl ?_ | refine G.nilCheckF rfl trivial rfl rfl rfl ?_
    refine G.fieldAddr rfl trivial rfl rfl Try.underlying66 rfl I24 rfl rfl ?_
    refine G.loadAt (v := ptr bd) .here rfl trivial rfl rfl Try.underlying24 rfl rfl rfl ?_
    refine G.moveI rfl trivial rfl rfl rfl ?_
    refine G.add rfl trivial rfl rfl rfl rfl (by omega) ?_
    refine G.fix (d := 15) (v := .int .i64 ((386 + i : Nat) : Int)) (by show Value.int .i64 _ = _; congr 1) ?_
    refine G.call E37 rfl rfl trivial rfl rfl (read_ok W0 ([_] ++ S) _ bd bl d hd (386 + i) (by omega)) rfl ?_
    rintro e L2 ⟨v, sx, hvx, rfl, rfl⟩
    rw [nowAt_eq] at hvx
    have hx64 : (nowAt d (386 + i)).length = 64 := by rw [← nowAt_eq (by omega)]; exact (hd.1 _ (List.getElem_mem _)).1
    obtain ⟨bx, cx, kx, rfl, rfl, hkx1, hkx2⟩ := hvx.block (by decide)
    refine G.moveU rfl trivial rfl rfl rfl ?_
    refine G.extractL rfl trivial rfl rfl rfl rfl ?_
    refine G.extractL rfl trivial rfl rfl rfl rfl ?_
    refine G.assignS rfl trivial rfl rfl rfl ?_
    refine G.assignI rfl trivial rfl rfl rfl ?_
    refine G.nil ?_
    refine C.seq ?_
    refine C.seq ?_
    refine C.region ?_
    refine G.moveI rfl trivial rfl rfl rfl ?_
    refine G.bin rfl trivial rfl rfl rfl rfl rfl ?_
    refine G.nil ?_
    refine C.no rfl (by simp) ?_
    refine C.skip ?_
    refine C.region ?_
    refine G.moveP rfl trivial rfl rfl rfl ?_
    first | refine G.nilCheckP rfl trivial rfl rfl rfl ?_ | refine G.nilCheckF rfl trivial rfl rfl rfl ?_
    refine G.fieldAddr rfl trivial rfl rfl Try.underlying66 rfl I63 rfl rfl ?_
    refine G.moveI rfl trivial rfl rfl rfl ?_
    refine G.mul rfl trivial rfl rfl rfl rfl (by omega) ?_
    refine G.sliceArrL rfl trivial rfl rfl Try.underlying63 I5 rfl rfl (by omega) ?_
    refine G.fix (d := 27) (v := .slice (some ⟨bg, 2 + 64 * i, none⟩) (65536 - 64 * i) (65536 - 64 * i)) (by show Value.slice (some ⟨bg, 0 + 2 + (64 * (i : Int)).toNat * 1, none⟩) (65536 - (64 * (i : Int)).toNat) (65536 - (64 * (i : Int)).toNat) = _; rw [show (64 * (i : Int)).toNat = 64 * i by omega, Nat.zero_add, Nat.mul_one]) ?_
    refine G.moveS rfl trivial rfl rfl rfl ?_
    refine G.copyA (vs := bytesV (nowAt d (386 + i))) (.next .here) rfl trivial rfl rfl Try.underlying34 I5 rfl rfl (by decide) (by rw [bytesV_length, hx64]; omega) (Rd.row0 .here) bytesV_ok (by rw [lr_length hcs.1, bytesV_length, hx64]; omega) _ (lr_splice hcs.1 (by rw [bytesV_length, hx64]) hlt) ?_
    refine G.less (fun _ h => h.tail) ?_
    refine G.nil ?_
    refine C.region ?_
    refine G.add rfl trivial rfl rfl rfl rfl (by omega) ?_
    refine G.moveI rfl trivial rfl rfl rfl ?_
    refine G.nil ?_
    exact ⟨1024 - (i + 1), by omega, i + 1, _, _, by omega, fun p => by split <;> rfl, ringV_load hcs hx64 hlt (dby d) (fun j hj => dby_at d hj) hR, rfl, rfl, rfl, rfl, rfl⟩
  · intro hc0
    obtain rfl : i = 1024 := by omega
    refine C.exit ?_
    refine C.seq ?_
    refine C.region ?_
    refine G.assignI rfl trivial rfl rfl rfl ?_
    refine G.nil ?_
    refine C.ret ?_
    -- end c0F
    exact ⟨rfl, _, Res.of (rs := [.tmp 2]) rfl rfl, _, ⟨cs, v0, es, ⟨hcs.1, fun p hp => by rw [hcs.2 p hp, hR p, if_pos (by omega)]⟩, hes, rfl⟩, rfl, rfl⟩
end
end Go.Proofs.Ytjfjmhmfhkdcbab
