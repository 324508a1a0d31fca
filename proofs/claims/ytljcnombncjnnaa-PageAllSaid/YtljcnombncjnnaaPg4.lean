/-
  The law PageAll, walked.
-/
import Derived.Test.YtljcnombncjnnaaPg2
namespace Go.Proofs.Ytljcnombncjnnaa
open Go Go.SL Go.RowKit

theorem u8_ofI (i : Nat) : Value.int .u8 (IntKind.u8.wrap (i : Int)) = .int .u8 ((UInt8.ofNat i).toNat : Int) := by
  have h1 : IntKind.u8.wrap (i : Int) = ((i % 256 : Nat) : Int) := by
    simp only [IntKind.wrap, IntKind.bits, IntKind.signed]
    simp
  rw [h1]
  congr 2
/-- the pages that the law keeps: block and bytes -/
abbrev Pgs := List (Nat × List UInt8)
abbrev nilV : Value := .slice none 0 0
abbrev slotV (b : Nat) : Value := .slice (some ⟨b, 0, none⟩) 256 256
def slotsV (Ps : Pgs) : List Value := Ps.map (fun p => slotV p.1)
def pgSeg (Ps : Pgs) : Seg := Ps.map (fun p => (p.1, .row (bytesV p.2) 5 256))
theorem slot_add (Ps : Pgs) (b : Nat) (x : List UInt8) {i k : Nat} (hi : Ps.length = i) : (slotsV Ps ++ List.replicate (k + 1) nilV).set i (slotV b) = slotsV (Ps ++ [(b, x)]) ++ List.replicate k nilV := by
  have hl : (slotsV Ps).length = i := by simp [slotsV, hi]
  rw [List.set_append_right _ _ (by omega), hl, Nat.sub_self, List.replicate_succ, List.set_cons_zero]
  simp [slotsV]
theorem slot_set (Ps : Pgs) (b : Nat) (x : List UInt8) (n : Nat) : (slotsV Ps).set n (slotV b) = slotsV (Ps.set n (b, x)) := by simp [slotsV, List.map_set]
theorem pg_add {W0 w : World} {Ps : Pgs} {b : Nat} {x : List UInt8} {R : Seg} {L : List Seg} (h : Mem W0 w ([(b, .row (bytesV x) 5 256)] :: R :: pgSeg Ps :: L)) : Mem W0 w (R :: pgSeg (Ps ++ [(b, x)]) :: L) := by
  refine h.of_flat ?_
  simp only [List.flatten_cons, pgSeg, List.map_append, List.map_cons, List.map_nil, List.singleton_append, List.append_assoc]
  have h1 := List.perm_middle (a := (b, SObj.row (bytesV x) 5 256)) (l₁ := R ++ Ps.map (fun p => (p.1, SObj.row (bytesV p.2) 5 256))) (l₂ := L.flatten)
  simp only [List.append_assoc] at h1
  exact h1.symm
theorem pg_put {W0 w : World} {Ps : Pgs} {b n : Nat} {x : List UInt8} {R : Seg} {L : List Seg} (hn : n < Ps.length) (h : Mem W0 w ([(b, .row (bytesV x) 5 256)] :: R :: pgSeg Ps :: L)) : Mem W0 w (R :: pgSeg (Ps.set n (b, x)) :: L) := by
  have e1 : Ps.set n (b, x) = Ps.take n ++ (b, x) :: Ps.drop (n + 1) := by rw [List.set_eq_take_append_cons_drop, if_pos hn]
  have e2 : Ps = Ps.take n ++ Ps[n] :: Ps.drop (n + 1) := by
    conv => lhs; rw [← List.take_append_drop n Ps, List.drop_eq_getElem_cons hn]
  have h2 : Mem W0 w (R :: (Ps.take n).map (fun p => (p.1, SObj.row (bytesV p.2) 5 256)) :: [(b, .row (bytesV x) 5 256)] :: [(Ps[n].1, .row (bytesV Ps[n].2) 5 256)] :: (Ps.drop (n + 1)).map (fun p => (p.1, SObj.row (bytesV p.2) 5 256)) :: L) := by
    refine h.of_flat ?_
    conv => lhs; rw [e2]
    simp only [List.flatten_cons, pgSeg, List.map_append, List.map_cons, List.map_nil, List.singleton_append, List.append_assoc, List.cons_append, List.nil_append]
    have h1 := List.perm_middle (a := (b, SObj.row (bytesV x) 5 256)) (l₁ := R ++ (Ps.take n).map (fun p => (p.1, SObj.row (bytesV p.2) 5 256))) (l₂ := (Ps[n].1, SObj.row (bytesV Ps[n].2) 5 256) :: ((Ps.drop (n + 1)).map (fun p => (p.1, SObj.row (bytesV p.2) 5 256)) ++ L.flatten))
    simp only [List.append_assoc] at h1
    exact h1.symm
  rw [e1]
  refine h2.fewer ?_
  simp only [List.flatten_cons, pgSeg, List.map_append, List.map_cons, List.singleton_append, List.append_assoc, List.cons_append, List.nil_append]
  exact List.Sublist.append_left (List.Sublist.append_left (List.Sublist.cons_cons _ (List.sublist_cons_self _ _)) _) _
theorem At.pg {Ps : Pgs} {k : Nat} (hk : k < Ps.length) {L : List Seg} : ∃ u, At (pgSeg Ps :: L) Ps[k].1 (.row (bytesV Ps[k].2) 5 256) u := by
  have e : pgSeg Ps = (pgSeg Ps).take k ++ (Ps[k].1, .row (bytesV Ps[k].2) 5 256) :: (pgSeg Ps).drop (k + 1) := by
    have hk2 : k < (pgSeg Ps).length := by simpa [pgSeg] using hk
    conv => lhs; rw [← List.take_append_drop k (pgSeg Ps), List.drop_eq_getElem_cons hk2]
    simp [pgSeg]
  rw [e]
  exact ⟨_, .mid⟩
theorem pageOf_new {k : Nat} (hk : k < 96) : pageOf (newDv 1410) k = List.replicate 256 0 := by
  unfold pageOf pagePart newDv
  simp only [List.drop_replicate, List.take_replicate]
  rw [show min 4 (1410 - (2 + 4 * k)) = 4 by omega]
  kernel_rfl
theorem bytesV_set (l : List UInt8) (n : Nat) (c : UInt8) : (bytesV l).set n (.int .u8 (c.toNat : Int)) = bytesV (l.set n c) := by simp [bytesV, byteV, List.map_set]
theorem ints_at {W0 : World} {p o : Nat} {zs : List Int} (r : ∀ L, Rd W0 L (some ⟨p, o, none⟩) (zs.map (Value.int .i64))) {i : Nat} (hlt : i < zs.length) {L : List Seg} (w : World) (hm : Mem W0 w L) : w.cell? ⟨p, o + (i : Int).toNat * 1, none⟩ = some (.int .i64 zs[i]) := by
  have h := Rd.cell_at (r L) (j := i) (by simpa using hlt) w hm
  rw [List.getElem?_map, List.getElem?_eq_getElem hlt] at h
  simpa using h
theorem slot_get {Qs : Pgs} {j : Nat} (h : j < Qs.length) : (slotsV Qs)[0 + (j : Int).toNat * 1]? = some (slotV Qs[j].1) := by
  rw [show 0 + (j : Int).toNat * 1 = j by simp]
  simp [slotsV, h]
/-- the page that the i-th round writes -/
def pgQ (xs : List UInt8) (i : Nat) : List UInt8 := ((ofB xs).set 0 (UInt8.ofNat i)).set 255 (UInt8.ofNat (i + 1))
theorem pgQ_length (xs : List UInt8) (i : Nat) : (pgQ xs i).length = 256 := by simp [pgQ, ofB_length]
/-- what the law keeps agrees with the device -/
def Agree (Ps : Pgs) (d : Dv) : Prop := Ps.length = 96 ∧ ∀ k (h : k < Ps.length), Ps[k].2 = pageOf d k
def d2of (d : Dv) (n : Nat) (b : List UInt8) : Dv := { d with l := lay (2 + 4 * n) b 4 d.l, calls := incs 4 d.calls }
theorem d2of_ok {d : Dv} (h : d.ok) {n : Nat} {b : List UInt8} (hb : b.length = 256) : (d2of d n b).ok := ⟨lay_ok hb 4 (by decide) _ h.1, by show (lay _ _ 4 d.l).length ≤ 2048; rw [lay_length]; exact h.2.1, h.2.2.1, h.2.2.2⟩
theorem Agree.set {Ps : Pgs} {d : Dv} (h : Agree Ps d) (hd : d.ok) (hl : d.l.length = 1410) {n b : Nat} (hn : n < 96) {x : List UInt8} (hx : x.length = 256) : Agree (Ps.set n (b, x)) (d2of d n x) := by
  refine ⟨by rw [List.length_set]; exact h.1, fun k hk => ?_⟩
  rw [List.getElem_set]
  rw [List.length_set] at hk
  have hk2 := h.1
  split
  · rename_i e
    subst e
    exact (page_of_lay hd.1 hx (by omega)).symm
  · rename_i e
    rw [h.2 k hk]
    exact (page_of_other (fun e2 => e e2)).symm
theorem all_walk (W0 : World) (a0 a1 : Option Addr) (c0 c1 : Nat) (zs : List Int) (xs : List UInt8) (s : Nat) (h0 : zs.length ≤ c0) (h1 : xs.length ≤ c1) (hz : zs.length ≤ 9223372036854775807) (hzb : ∀ n ∈ zs, -9223372036854775808 ≤ n ∧ n ≤ 9223372036854775807)
    (r0 : ∀ L, Rd W0 L a0 (zs.map (Value.int .i64))) (r1 : ∀ L, Rd W0 L a1 (bytesV xs)) (hs : s ≤ 300) (hx : xs.length ≤ 300) :
    FnS Try.prog W0 3 #[.slice a0 zs.length c0, .slice a1 xs.length c1, .int .i64 (s : Int)] [] (fun e _ => e = .returned (.bool true)) := by
  refine FnS.of (args := [.slice a0 zs.length c0, .slice a1 xs.length c1, .int .i64 (s : Int)]) Try.func3 rfl rfl ?_
  refine C.seq ?_
  refine C.region ?_
  refine G.assignB rfl trivial rfl rfl rfl ?_
  refine G.nil ?_
  refine C.seq ?_
  refine C.region ?_
  refine G.call E6 rfl rfl trivial rfl rfl (begun_spec W0 _) rfl ?_
  rintro e L2 ⟨rfl, rfl⟩
  refine G.assignB rfl trivial rfl rfl rfl ?_
  refine G.nil ?_
  refine C.seq ?_
  refine C.seq ?_
  refine C.region ?_
  refine G.moveB rfl trivial rfl rfl rfl ?_
  first | refine G.notD rfl trivial rfl rfl rfl ?_ | refine G.not rfl trivial rfl rfl rfl ?_
  refine G.nil ?_
  refine C.condF rfl ?_
  refine C.skip ?_
  refine C.seq ?_
  refine C.seq ?_
  refine C.region ?_
  refine G.moveI rfl trivial rfl rfl rfl ?_
  refine G.bin rfl trivial rfl rfl rfl rfl rfl ?_
  refine G.moveB rfl trivial rfl rfl rfl ?_
  refine G.no (t := 27) rfl (by omega) ?_
  refine G.moveI rfl ⟨_, rfl, rfl, rfl⟩ rfl rfl rfl ?_
  refine G.bin rfl ⟨_, rfl, rfl, rfl⟩ rfl rfl rfl rfl rfl ?_
  first | refine G.pickT rfl trivial rfl rfl rfl rfl ?_ | refine G.pickF rfl trivial rfl rfl rfl rfl ?_
  refine G.moveB rfl trivial rfl rfl rfl ?_
  refine G.no (t := 31) rfl (by omega) ?_
  refine G.moveS rfl ⟨_, rfl, rfl, rfl⟩ rfl rfl rfl ?_
  refine G.lenSlice rfl ⟨_, rfl, rfl, rfl⟩ rfl rfl Try.underlying23 rfl ?_
  refine G.bin rfl ⟨_, rfl, rfl, rfl⟩ rfl rfl rfl rfl rfl ?_
  first | refine G.pickT rfl trivial rfl rfl rfl rfl ?_ | refine G.pickF rfl trivial rfl rfl rfl rfl ?_
  refine G.nil ?_
  refine C.no rfl (by omega) ?_
  refine C.skip ?_
  refine C.seq ?_
  refine C.region ?_
  refine G.call E7 rfl rfl trivial rfl rfl (new_spec W0 _ 1410) rfl ?_
  rintro e L2 ⟨bd, bl, rfl, rfl⟩
  rw [show clampN 1410 = 1410 from rfl]
  refine G.assignP rfl trivial rfl rfl rfl ?_
  refine G.nil ?_
  refine C.seq ?_
  refine C.region ?_
  refine G.allocC (cs := List.replicate 96 nilV) rfl trivial rfl rfl I27 (by kernel_rfl) ?_
  intro b9
  refine G.less (L' := [(b9, .row (slotsV [] ++ List.replicate 96 nilV) 27 96)] :: pgSeg [] :: devSeg bd bl (newDv 1410) :: []) (fun _ h => h.of_flat (by simp only [slotsV, pgSeg, List.map_nil, List.nil_append, List.length_replicate, List.flatten_cons, List.flatten_nil]; exact List.Perm.refl _)) ?_
  refine G.nil ?_
  refine C.seq ?_
  refine C.seq ?_
  refine C.region ?_
  refine G.assignI rfl trivial rfl rfl rfl ?_
  refine G.nil ?_
  refine C.block ?_
  refine C.loop (fun m F D' L' => ∃ (i : Nat) (Ps : Pgs), i ≤ 96 ∧ Ps.length = i ∧ (∀ k (h : k < Ps.length), Ps[k].2 = List.replicate 256 0) ∧ m = 96 - i ∧ F 10 = .int .i64 i ∧ F 9 = ptr b9 ∧ F 8 = ptr bd ∧ F 0 = .slice a0 zs.length c0 ∧ F 1 = .slice a1 xs.length c1 ∧ F 2 = .int .i64 (s : Int) ∧ D' = [] ∧ [(b9, .row (slotsV Ps ++ List.replicate (96 - i) nilV) 27 96)] :: pgSeg Ps :: devSeg bd bl (newDv 1410) :: [] = L') ⟨_, ⟨0, [], by omega, rfl, (fun _ h => absurd h (Nat.not_lt_zero _)), rfl, rfl, rfl, rfl, rfl, rfl, rfl, rfl, rfl⟩⟩ ?_
  rintro m F D' L' ⟨i, Ps, hi, hPl, hPz, rfl, h10, h9, h8, h0', h1', h2', rfl, rfl⟩
  refine C.fix (d := 10) h10 ?_
  refine C.fix (d := 9) h9 ?_
  refine C.fix (d := 8) h8 ?_
  refine C.fix (d := 0) h0' ?_
  refine C.fix (d := 1) h1' ?_
  refine C.fix (d := 2) h2' ?_
  refine C.seq ?_
  refine C.seq ?_
  refine C.region ?_
  refine G.moveI rfl trivial rfl rfl rfl ?_
  refine G.bin rfl trivial rfl rfl rfl rfl rfl ?_
  refine G.nil ?_
  refine C.cond _ rfl ?_ ?_
  · intro hc2
    have hlt : i < 96 := by omega
    obtain ⟨j, hj⟩ : ∃ j, 96 - i = j + 1 := ⟨96 - i - 1, by omega⟩
    have hj2 : 96 - (i + 1) = j := by omega
    refine C.skip ?_
    refine C.seq ?_
    refine C.block ?_
    refine C.region ?_
    refine G.moveI rfl trivial rfl rfl rfl ?_
    refine G.makeBytes (l := 256) (c := 256) rfl trivial rfl rfl Try.underlying23 I5 rfl rfl (by decide) ?_
    intro b42
    refine G.indexAddrArr rfl trivial rfl rfl Try.underlying27 I23 rfl rfl (by omega) ?_
    refine G.store (v := .slice _ _ _) (.next .here) rfl trivial rfl I23 rfl rfl rfl (by simp [slotsV]; omega) (slotsV (Ps ++ [(b42, List.replicate 256 0)]) ++ List.replicate (96 - (i + 1)) nilV) (by rw [hj2, hj]; exact slot_add Ps b42 _ (by rw [hPl]; simp)) ?_
    refine G.less (fun _ h => pg_add h) ?_
    refine G.nil ?_
    refine C.region ?_
    refine G.moveI rfl trivial rfl rfl rfl ?_
    refine G.add rfl trivial rfl rfl rfl rfl (by omega) ?_
    refine G.assignI rfl trivial rfl rfl rfl ?_
    refine G.nil ?_
    exact ⟨96 - (i + 1), by omega, i + 1, Ps ++ [(b42, List.replicate 256 0)], by omega, by rw [List.length_append, hPl]; rfl, (fun k h => by rw [List.getElem_append]; split; exact hPz _ _; rw [List.getElem_singleton]), rfl, rfl, rfl, rfl, rfl, rfl, rfl, rfl, rfl⟩
  · intro hc2
    obtain rfl : i = 96 := by omega
    rw [show slotsV Ps ++ List.replicate (96 - 96) nilV = slotsV Ps by simp]
    have hag0 : Agree Ps (newDv 1410) := ⟨hPl, fun k h => by rw [hPz k h, pageOf_new (by omega)]⟩
    have hlen0 : (newDv 1410).l.length = 1410 := newDv_len _
    have hok0 : (newDv 1410).ok := newDv_ok (by decide)
    have hlive0 : (newDv 1410).live := newDv_live _
    generalize newDv 1410 = d0 at *
    refine C.exit ?_
    refine C.seq ?_
    refine C.seq ?_
    refine C.region ?_
    refine G.assignI rfl trivial rfl rfl rfl ?_
    refine G.nil ?_
    refine C.block ?_
    refine C.loop (fun m F D' L' => ∃ (i : Nat) (Qs : Pgs) (d : Dv), i ≤ zs.length ∧ Agree Qs d ∧ d.ok ∧ d.live ∧ d.l.length = 1410 ∧ m = zs.length - i ∧ F 11 = .int .i64 i ∧ F 9 = ptr b9 ∧ F 8 = ptr bd ∧ F 0 = .slice a0 zs.length c0 ∧ F 1 = .slice a1 xs.length c1 ∧ F 2 = .int .i64 (s : Int) ∧ D' = [] ∧ [(b9, .row (slotsV Qs) 27 96)] :: pgSeg Qs :: devSeg bd bl d :: [] = L') ⟨_, ⟨0, Ps, d0, by omega, hag0, hok0, hlive0, hlen0, rfl, rfl, rfl, rfl, rfl, rfl, rfl, rfl, rfl⟩⟩ ?_
    rintro m F D' L' ⟨i, Qs, d, hi, hag, hok, hlive, hlen, rfl, h11, h9, h8, h0', h1', h2', rfl, rfl⟩
    refine C.fix (d := 11) h11 ?_
    refine C.fix (d := 9) h9 ?_
    refine C.fix (d := 8) h8 ?_
    refine C.fix (d := 0) h0' ?_
    refine C.fix (d := 1) h1' ?_
    refine C.fix (d := 2) h2' ?_
    refine C.seq ?_
    refine C.seq ?_
    refine C.region ?_
    refine G.moveI rfl trivial rfl rfl rfl ?_
    refine G.moveS rfl trivial rfl rfl rfl ?_
    refine G.lenSlice rfl trivial rfl rfl Try.underlying22 rfl ?_
    refine G.bin rfl trivial rfl rfl rfl rfl rfl ?_
    refine G.moveB rfl trivial rfl rfl rfl ?_
    refine G.fork (t := 48) _ rfl ?_ ?_
    · intro hg48
      refine G.moveI rfl ⟨_, rfl, rfl, rfl⟩ rfl rfl rfl ?_
      refine G.bin rfl ⟨_, rfl, rfl, rfl⟩ rfl rfl rfl rfl rfl ?_
      first | refine G.pickT rfl trivial rfl rfl rfl rfl ?_ | refine G.pickF rfl trivial rfl rfl rfl rfl ?_
      refine G.nil ?_
      refine C.cond _ rfl ?_ ?_
      · intro hc3
        have hlt : i < zs.length := by omega
        obtain ⟨p0, o0, rfl, rd0⟩ := (r0 []).some_ (by simp; omega)
        have hzi := hzb zs[i] (List.getElem_mem _)
        refine C.skip ?_
        refine C.seq ?_
        refine C.block ?_
        refine C.seq ?_
        refine C.region ?_
        refine G.moveS rfl trivial rfl rfl rfl ?_
        refine G.call E8 rfl rfl trivial rfl rfl (of_spec W0 _ a1 _ c1 xs rfl (fun _ => r1 _)) rfl ?_
        rintro e L2 ⟨bp, rfl, rfl⟩
        refine G.assignS rfl trivial rfl rfl rfl ?_
        refine G.nil ?_
        refine C.seq ?_
        refine C.region ?_
        refine G.moveS rfl trivial rfl rfl rfl ?_
        refine G.moveS rfl trivial rfl rfl rfl ?_
        refine G.moveI rfl trivial rfl rfl rfl ?_
        refine G.convInt rfl trivial rfl rfl Try.underlying3 Try.underlying5 rfl ?_
        refine G.fix (d := 59) (v := .int .u8 ((UInt8.ofNat i).toNat : Int)) (u8_ofI i) ?_
        refine G.moveI rfl trivial rfl rfl rfl ?_
        refine G.add rfl trivial rfl rfl rfl rfl (by omega) ?_
        refine G.convInt rfl trivial rfl rfl Try.underlying3 Try.underlying5 rfl ?_
        refine G.fix (d := 62) (v := .int .u8 ((UInt8.ofNat (i + 1)).toNat : Int)) (u8_ofI (i + 1)) ?_
        refine G.indexAddr rfl trivial rfl rfl Try.underlying23 I5 rfl rfl (by omega) ?_
        refine G.store .here rfl trivial rfl I5 rfl rfl rfl (by simp [ofB_length]) _ (bytesV_set _ _ _) ?_
        refine G.indexAddr rfl trivial rfl rfl Try.underlying23 I5 rfl rfl (by omega) ?_
        refine G.store .here rfl trivial rfl I5 rfl rfl rfl (by simp [ofB_length]) _ ((bytesV_set _ _ _).trans (show _ = bytesV (pgQ xs i) from rfl)) ?_
        generalize hQ : pgQ xs i = Q
        have hQl : Q.length = 256 := by rw [← hQ]; exact pgQ_length _ _
        refine G.nil ?_
        refine C.seq ?_
        refine C.region ?_
        refine G.moveP rfl trivial rfl rfl rfl ?_
        refine G.moveS rfl trivial rfl rfl rfl ?_
        refine G.moveI rfl trivial rfl rfl rfl ?_
        refine G.indexAddr rfl trivial rfl rfl Try.underlying22 I3 rfl rfl (by omega) ?_
        refine G.load (v := .int .i64 zs[i]) rfl trivial rfl rfl Try.underlying3 rfl rfl (fun w hm => ints_at r0 hlt w hm) ?_
        refine G.moveS rfl trivial rfl rfl rfl ?_
        by_cases hin : 0 ≤ zs[i] ∧ zs[i] < 96
        ·
          refine G.call E9 rfl rfl trivial rfl rfl (page_write W0 [_, _, _] _ bd bl d hok _ hin _ _ Q hQl (by decide) (fun _ => Rd.row0 .here)) rfl ?_
          rintro e L2 ⟨rfl, rfl⟩
          obtain ⟨n, hn⟩ : ∃ n : Nat, zs[i] = n := ⟨zs[i].toNat, by omega⟩
          have hn96 : n < 96 := by omega
          rw [hn, pageW_live hn96 hQl 4 (by decide) d hlive (by rw [hlen]; decide)]
          show G _ _ _ _ _ _ _ _ ([(bp, .row (bytesV Q) 5 256)] :: [(b9, .row (slotsV Qs) 27 96)] :: pgSeg Qs :: devSeg bd bl (d2of d n Q) :: [])
          refine G.assignI rfl trivial rfl rfl rfl ?_
          refine G.nil ?_
          refine C.seq ?_
          refine C.region ?_
          refine G.moveS rfl trivial rfl rfl rfl ?_
          refine G.moveI rfl trivial rfl rfl rfl ?_
          refine G.indexAddr rfl trivial rfl rfl Try.underlying22 I3 rfl rfl (by omega) ?_
          refine G.load (v := .int .i64 (n : Int)) rfl trivial rfl rfl Try.underlying3 rfl rfl (fun w hm => (ints_at r0 hlt w hm).trans (by rw [hn])) ?_
          refine G.bin rfl trivial rfl rfl rfl rfl rfl ?_
          refine G.moveB rfl trivial rfl rfl rfl ?_
          refine G.yes (t := 77) rfl (by omega) ?_
          refine G.moveS rfl ⟨_, rfl, rfl, rfl⟩ rfl rfl rfl ?_
          refine G.moveI rfl ⟨_, rfl, rfl, rfl⟩ rfl rfl rfl ?_
          refine G.indexAddr rfl ⟨_, rfl, rfl, rfl⟩ rfl rfl Try.underlying22 I3 rfl rfl (by omega) ?_
          refine G.load (v := .int .i64 (n : Int)) rfl ⟨_, rfl, rfl, rfl⟩ rfl rfl Try.underlying3 rfl rfl (fun w hm => (ints_at r0 hlt w hm).trans (by rw [hn])) ?_
          refine G.bin rfl ⟨_, rfl, rfl, rfl⟩ rfl rfl rfl rfl rfl ?_
          refine G.yes (t := 82) rfl (by omega) ?_
          first | refine G.pickT rfl trivial rfl rfl rfl rfl ?_ | refine G.pickF rfl trivial rfl rfl rfl rfl ?_
          refine G.assignB rfl trivial rfl rfl rfl ?_
          refine G.nil ?_
          refine C.seq ?_
          refine C.seq ?_
          refine C.region ?_
          refine G.moveI rfl trivial rfl rfl rfl ?_
          refine G.bin rfl trivial rfl rfl rfl rfl rfl ?_
          refine G.yes (t := 85) rfl rfl ?_
          refine G.moveB rfl trivial rfl rfl rfl ?_
          refine G.boolNe rfl trivial rfl rfl Try.underlying4 rfl rfl ?_
          refine G.moveB rfl trivial rfl rfl rfl ?_
          refine G.moveB rfl ⟨_, rfl, rfl, rfl⟩ rfl rfl rfl ?_
          first | refine G.notD rfl ⟨_, rfl, rfl, rfl⟩ rfl rfl rfl ?_ | refine G.not rfl ⟨_, rfl, rfl, rfl⟩ rfl rfl rfl ?_
          refine G.moveB rfl ⟨_, rfl, rfl, rfl⟩ rfl rfl rfl ?_
          refine G.skip rfl rfl rfl rfl rfl rfl ?_
          refine G.skip rfl rfl rfl rfl rfl rfl ?_
          first | refine G.pickT rfl ⟨_, rfl, rfl, rfl⟩ rfl rfl rfl rfl ?_ | refine G.pickF rfl ⟨_, rfl, rfl, rfl⟩ rfl rfl rfl rfl ?_
          first | refine G.pickT rfl trivial rfl rfl rfl rfl ?_ | refine G.pickF rfl trivial rfl rfl rfl rfl ?_
          refine G.nil ?_
          refine C.condF rfl ?_
          refine C.skip ?_
          refine C.seq ?_
          refine C.region ?_
          refine G.moveB rfl trivial rfl rfl rfl ?_
          refine G.nil ?_
          refine C.condT rfl ?_
          refine C.seq ?_
          refine C.region ?_
          refine G.moveS rfl trivial rfl rfl rfl ?_
          refine G.moveI rfl trivial rfl rfl rfl ?_
          refine G.indexAddr rfl trivial rfl rfl Try.underlying22 I3 rfl rfl (by omega) ?_
          refine G.load (v := .int .i64 (n : Int)) rfl trivial rfl rfl Try.underlying3 rfl rfl (fun w hm => (ints_at r0 hlt w hm).trans (by rw [hn])) ?_
          refine G.moveS rfl trivial rfl rfl rfl ?_
          refine G.indexAddrArr rfl trivial rfl rfl Try.underlying27 I23 rfl rfl (by omega) ?_
          refine G.store (v := .slice _ _ _) (.next .here) rfl trivial rfl I23 rfl rfl rfl (by simp [slotsV, hag.1]; omega) (slotsV (Qs.set n (bp, Q))) (by rw [show 0 + (n : Int).toNat * 1 = n by simp]; exact slot_set Qs bp Q n) ?_
          have hd2ok : (d2of d n Q).ok := d2of_ok hok hQl
          have hd2live : (d2of d n Q).live := hlive
          have hd2len : (d2of d n Q).l.length = 1410 := by show (lay _ _ 4 d.l).length = 1410; rw [lay_length]; exact hlen
          have hag2 : Agree (Qs.set n (bp, Q)) (d2of d n Q) := hag.set hok hlen hn96 hQl
          have hnow0 : ∀ h : 2 + 4 * n < (d2of d n Q).l.length, (d2of d n Q).l[2 + 4 * n].now = part Q 0 := fun h => lay_now (p := 2 + 4 * n) hok.1 hQl (q := 0) (by decide) (by omega) h
          have hnow3 : ∀ h : 2 + 4 * n + 3 < (d2of d n Q).l.length, (d2of d n Q).l[2 + 4 * n + 3].now = part Q 3 := fun h => lay_now (p := 2 + 4 * n) hok.1 hQl (q := 3) (by decide) (by omega) h
          generalize d2of d n Q = d2 at *
          have hp0 : (part Q 0).length = 64 := part_length hQl (by decide)
          have hp3 : (part Q 3).length = 64 := part_length hQl (by decide)
          refine G.nil ?_
          refine C.seq ?_
          refine C.region ?_
          refine G.moveP rfl trivial rfl rfl rfl ?_
          refine G.moveS rfl trivial rfl rfl rfl ?_
          refine G.moveI rfl trivial rfl rfl rfl ?_
          refine G.indexAddr rfl trivial rfl rfl Try.underlying22 I3 rfl rfl (by omega) ?_
          refine G.load (v := .int .i64 (n : Int)) rfl trivial rfl rfl Try.underlying3 rfl rfl (fun w hm => (ints_at r0 hlt w hm).trans (by rw [hn])) ?_
          refine G.mul rfl trivial rfl rfl rfl rfl (by omega) ?_
          refine G.add rfl trivial rfl rfl rfl rfl (by omega) ?_
          refine G.fix (d := 110) (v := .int .i64 ((2 + 4 * n : Nat) : Int)) (by show Value.int .i64 _ = _; first | (congr 1; done) | (congr 1; omega)) ?_
          refine G.call E10 rfl rfl trivial rfl rfl (read_ok W0 [_, _, _] _ bd bl d2 hd2ok (2 + 4 * n) (by omega)) rfl ?_
          rintro e L2 ⟨v, seg, hv, rfl, rfl⟩
          rw [hnow0] at hv
          have hv1 := hv.1
          obtain ⟨a111, c111, rfl, hr111⟩ := hv.form
          refine G.moveU rfl trivial rfl rfl rfl ?_
          refine G.extractL rfl trivial rfl rfl rfl rfl ?_
          refine G.extractL rfl trivial rfl rfl rfl rfl ?_
          refine G.assignS rfl trivial rfl rfl rfl ?_
          refine G.assignI rfl trivial rfl rfl rfl ?_
          refine G.nil ?_
          refine C.seq ?_
          refine C.region ?_
          refine G.moveP rfl trivial rfl rfl rfl ?_
          refine G.moveS rfl trivial rfl rfl rfl ?_
          refine G.moveI rfl trivial rfl rfl rfl ?_
          refine G.indexAddr rfl trivial rfl rfl Try.underlying22 I3 rfl rfl (by omega) ?_
          refine G.load (v := .int .i64 (n : Int)) rfl trivial rfl rfl Try.underlying3 rfl rfl (fun w hm => (ints_at r0 hlt w hm).trans (by rw [hn])) ?_
          refine G.mul rfl trivial rfl rfl rfl rfl (by omega) ?_
          refine G.add rfl trivial rfl rfl rfl rfl (by omega) ?_
          refine G.fix (d := 121) (v := .int .i64 ((2 + 4 * n + 3 : Nat) : Int)) (by show Value.int .i64 _ = _; first | (congr 1; done) | (congr 1; omega)) ?_
          refine G.call E10 rfl rfl trivial rfl rfl (read_ok W0 [_, _, _, _] _ bd bl d2 hd2ok (2 + 4 * n + 3) (by omega)) rfl ?_
          rintro e L2 ⟨v, seg2, hv2, rfl, rfl⟩
          rw [hnow3] at hv2
          obtain ⟨a122, c122, rfl, hr122⟩ := hv2.form
          refine G.moveU rfl trivial rfl rfl rfl ?_
          refine G.extractL rfl trivial rfl rfl rfl rfl ?_
          refine G.extractL rfl trivial rfl rfl rfl rfl ?_
          refine G.assignS rfl trivial rfl rfl rfl ?_
          refine G.assignI rfl trivial rfl rfl rfl ?_
          refine G.nil ?_
          refine C.seq ?_
          refine C.drawn mixed (_) [] (fun _ h => h) ?_
          refine GA.pure (i := 0) (fun _ _ _ _ _ h => h) rfl (by kernel_rfl) trivial rfl rfl (Y.moveS rfl rfl) (#[true, false, false, false, false, false, false, false, false, false, false, false, false, false]) (by kernel_rfl) ?_
          refine GA.read (i := 1) (fun _ _ _ _ _ h => h) rfl (by kernel_rfl) (by kernel_rfl) trivial rfl rfl (Y.bytesStr (part Q 0) rfl Try.underlying23 Try.underlying5 Try.underlying9 rfl hp0.symm (hr111 _ _).cons) (#[true, true, false, false, false, false, false, false, false, false, false, false, false, false]) (by kernel_rfl) ?_
          refine GA.pure (i := 2) (fun _ _ _ _ _ h => h) rfl (by kernel_rfl) trivial rfl rfl (Y.moveS rfl rfl) (#[true, true, true, false, false, false, false, false, false, false, false, false, false, false]) (by kernel_rfl) ?_
          refine GA.pure (i := 3) (fun _ _ _ _ _ h => h) rfl (by kernel_rfl) trivial rfl rfl (Y.sliceH rfl Try.underlying23 I5 rfl rfl (by omega)) (#[true, true, true, true, false, false, false, false, false, false, false, false, false, false]) (by kernel_rfl) ?_
          refine GA.read (i := 4) (fun _ _ _ _ _ h => h) rfl (by kernel_rfl) (by kernel_rfl) trivial rfl rfl (Y.bytesStr (Q.take 64) rfl Try.underlying23 Try.underlying5 Try.underlying9 rfl (by simp [hQl]) (by have h := ((Rd.row0 (W0 := W0) (L := seg2 :: seg :: [(bp, .row (bytesV Q) 5 256)] :: [(b9, .row (slotsV (Qs.set n (bp, Q))) 27 96)] :: pgSeg Qs :: devSeg bd bl d2 :: []) (.next (.next .here))).take (n := 64)); simp only [bytesV_take] at h; exact h)) (#[true, true, true, true, true, false, false, false, false, false, false, false, false, false]) (by kernel_rfl) ?_
          refine GA.pure (i := 5) (fun _ _ _ _ _ h => h) rfl (by kernel_rfl) trivial rfl rfl (Y.strNe rfl  rfl rfl) (#[true, true, true, true, true, true, false, false, false, false, false, false, false, false]) (by kernel_rfl) ?_
          refine GA.no (t := 130) rfl (by simp [part]) ?_
          refine GA.pure (i := 6) (fun _ _ _ _ _ h => h) rfl (by kernel_rfl) trivial rfl rfl (Y.moveB rfl rfl) (#[true, true, true, true, true, true, true, false, false, false, false, false, false, false]) (by kernel_rfl) ?_
          refine GA.pure (i := 7) (fun _ _ _ _ _ h => h) rfl (by kernel_rfl) ⟨_, rfl, rfl, rfl⟩ rfl rfl (Y.moveS rfl rfl) (#[true, true, true, true, true, true, true, true, false, false, false, false, false, false]) (by kernel_rfl) ?_
          refine GA.read (i := 8) (fun _ _ _ _ _ h => h) rfl (by kernel_rfl) (by kernel_rfl) ⟨_, rfl, rfl, rfl⟩ rfl rfl (Y.bytesStr (part Q 3) rfl Try.underlying23 Try.underlying5 Try.underlying9 rfl hp3.symm (hr122 _ _)) (#[true, true, true, true, true, true, true, true, true, false, false, false, false, false]) (by kernel_rfl) ?_
          refine GA.pure (i := 9) (fun _ _ _ _ _ h => h) rfl (by kernel_rfl) ⟨_, rfl, rfl, rfl⟩ rfl rfl (Y.moveS rfl rfl) (#[true, true, true, true, true, true, true, true, true, true, false, false, false, false]) (by kernel_rfl) ?_
          refine GA.pure (i := 10) (fun _ _ _ _ _ h => h) rfl (by kernel_rfl) ⟨_, rfl, rfl, rfl⟩ rfl rfl (Y.sliceL rfl Try.underlying23 I5 rfl rfl (by omega)) (#[true, true, true, true, true, true, true, true, true, true, true, false, false, false]) (by kernel_rfl) ?_
          refine GA.read (i := 11) (fun _ _ _ _ _ h => h) rfl (by kernel_rfl) (by kernel_rfl) ⟨_, rfl, rfl, rfl⟩ rfl rfl (Y.bytesStr (Q.drop 192) rfl Try.underlying23 Try.underlying5 Try.underlying9 rfl (by simp [hQl]) (by have h := ((Rd.row0 (W0 := W0) (L := seg2 :: seg :: [(bp, .row (bytesV Q) 5 256)] :: [(b9, .row (slotsV (Qs.set n (bp, Q))) 27 96)] :: pgSeg Qs :: devSeg bd bl d2 :: []) (.next (.next .here))).cut (n := 256) (cap := 256) (l := 192) (sz := 1) (by simp [hQl]) (Nat.le_refl _)); simp only [bytesV_drop, Nat.mul_one] at h; exact h)) (#[true, true, true, true, true, true, true, true, true, true, true, true, false, false]) (by kernel_rfl) ?_
          refine GA.pure (i := 12) (fun _ _ _ _ _ h => h) rfl (by kernel_rfl) ⟨_, rfl, rfl, rfl⟩ rfl rfl (Y.strNe rfl  rfl rfl) (#[true, true, true, true, true, true, true, true, true, true, true, true, true, false]) (by kernel_rfl) ?_
          refine GA.no (t := 137) rfl (by rw [show part Q 3 = Q.drop 192 from List.take_of_length_le (by simp [hQl])]; simp) ?_
          first | refine GA.pure (i := 13) (fun _ _ _ _ _ h => h) rfl (by kernel_rfl) trivial rfl rfl (Y.pickT rfl rfl rfl) (#[true, true, true, true, true, true, true, true, true, true, true, true, true, true]) (by kernel_rfl) ?_ | refine GA.pure (i := 13) (fun _ _ _ _ _ h => h) rfl (by kernel_rfl) trivial rfl rfl (Y.pickF rfl rfl rfl) (#[true, true, true, true, true, true, true, true, true, true, true, true, true, true]) (by kernel_rfl) ?_
          refine GA.done (by kernel_rfl) ?_
          refine C.condF rfl ?_
          refine C.skip ?_
          refine C.region ?_
          refine G.moveI rfl trivial rfl rfl rfl ?_
          refine G.add rfl trivial rfl rfl rfl rfl (by omega) ?_
          refine G.assignI rfl trivial rfl rfl rfl ?_
          refine G.less (fun _ h => pg_put (by rw [hag.1]; exact hn96) h.tail.tail) ?_
          refine G.nil ?_
          exact ⟨zs.length - (i + 1), by omega, i + 1, Qs.set n (bp, Q), d2, by omega, hag2, hd2ok, hd2live, hd2len, rfl, rfl, rfl, rfl, rfl, rfl, rfl, rfl, rfl⟩
        ·
          refine G.call E9 rfl rfl trivial rfl rfl (page_write_out W0 _ _ _ hin _ _ _) rfl ?_
          rintro e L2 ⟨rfl, rfl⟩
          refine G.assignI rfl trivial rfl rfl rfl ?_
          refine G.nil ?_
          refine C.seq ?_
          refine C.region ?_
          refine G.moveS rfl trivial rfl rfl rfl ?_
          refine G.moveI rfl trivial rfl rfl rfl ?_
          refine G.indexAddr rfl trivial rfl rfl Try.underlying22 I3 rfl rfl (by omega) ?_
          refine G.load (v := .int .i64 zs[i]) rfl trivial rfl rfl Try.underlying3 rfl rfl (fun w hm => ints_at r0 hlt w hm) ?_
          refine G.bin rfl trivial rfl rfl rfl rfl rfl ?_
          refine G.moveB rfl trivial rfl rfl rfl ?_
          refine G.fork (t := 77) _ rfl ?_ ?_
          · intro hg77
            refine G.moveS rfl ⟨_, rfl, rfl, rfl⟩ rfl rfl rfl ?_
            refine G.moveI rfl ⟨_, rfl, rfl, rfl⟩ rfl rfl rfl ?_
            refine G.indexAddr rfl ⟨_, rfl, rfl, rfl⟩ rfl rfl Try.underlying22 I3 rfl rfl (by omega) ?_
            refine G.load (v := .int .i64 zs[i]) rfl ⟨_, rfl, rfl, rfl⟩ rfl rfl Try.underlying3 rfl rfl (fun w hm => ints_at r0 hlt w hm) ?_
            refine G.bin rfl ⟨_, rfl, rfl, rfl⟩ rfl rfl rfl rfl rfl ?_
            refine G.no (t := 82) rfl (by omega) ?_
            first | refine G.pickT rfl trivial rfl rfl rfl rfl ?_ | refine G.pickF rfl trivial rfl rfl rfl rfl ?_
            refine G.assignB rfl trivial rfl rfl rfl ?_
            refine G.nil ?_
            refine C.seq ?_
            refine C.seq ?_
            refine C.region ?_
            refine G.moveI rfl trivial rfl rfl rfl ?_
            refine G.bin rfl trivial rfl rfl rfl rfl rfl ?_
            refine G.no (t := 85) rfl (by decide) ?_
            refine G.moveB rfl trivial rfl rfl rfl ?_
            refine G.boolNe rfl trivial rfl rfl Try.underlying4 rfl rfl ?_
            refine G.moveB rfl trivial rfl rfl rfl ?_
            refine G.moveB rfl ⟨_, rfl, rfl, rfl⟩ rfl rfl rfl ?_
            first | refine G.notD rfl ⟨_, rfl, rfl, rfl⟩ rfl rfl rfl ?_ | refine G.not rfl ⟨_, rfl, rfl, rfl⟩ rfl rfl rfl ?_
            refine G.moveB rfl ⟨_, rfl, rfl, rfl⟩ rfl rfl rfl ?_
            refine G.moveI rfl ⟨_, rfl, rfl, rfl⟩ rfl rfl rfl ?_
            refine G.bin rfl ⟨_, rfl, rfl, rfl⟩ rfl rfl rfl rfl rfl ?_
            refine G.no (t := 93) rfl (by decide) ?_
            first | refine G.pickT rfl ⟨_, rfl, rfl, rfl⟩ rfl rfl rfl rfl ?_ | refine G.pickF rfl ⟨_, rfl, rfl, rfl⟩ rfl rfl rfl rfl ?_
            first | refine G.pickT rfl trivial rfl rfl rfl rfl ?_ | refine G.pickF rfl trivial rfl rfl rfl rfl ?_
            refine G.nil ?_
            refine C.condF rfl ?_
            refine C.skip ?_
            refine C.seq ?_
            refine C.region ?_
            refine G.moveB rfl trivial rfl rfl rfl ?_
            refine G.nil ?_
            refine C.condF rfl ?_
            refine C.skip ?_
            refine C.region ?_
            refine G.moveI rfl trivial rfl rfl rfl ?_
            refine G.add rfl trivial rfl rfl rfl rfl (by omega) ?_
            refine G.assignI rfl trivial rfl rfl rfl ?_
            refine G.less (fun _ h => h.tail) ?_
            refine G.nil ?_
            exact ⟨zs.length - (i + 1), by omega, i + 1, Qs, d, by omega, hag, hok, hlive, hlen, rfl, rfl, rfl, rfl, rfl, rfl, rfl, rfl, rfl⟩
          · intro hg77
            refine G.skip rfl rfl rfl rfl rfl rfl ?_
            refine G.skip rfl rfl rfl rfl rfl rfl ?_
            refine G.skip rfl rfl rfl rfl rfl rfl ?_
            refine G.skip rfl rfl rfl rfl rfl rfl ?_
            refine G.skip rfl rfl rfl rfl rfl rfl ?_
            first | refine G.pickT rfl trivial rfl rfl rfl rfl ?_ | refine G.pickF rfl trivial rfl rfl rfl rfl ?_
            refine G.assignB rfl trivial rfl rfl rfl ?_
            refine G.nil ?_
            refine C.seq ?_
            refine C.seq ?_
            refine C.region ?_
            refine G.moveI rfl trivial rfl rfl rfl ?_
            refine G.bin rfl trivial rfl rfl rfl rfl rfl ?_
            refine G.no (t := 85) rfl (by decide) ?_
            refine G.moveB rfl trivial rfl rfl rfl ?_
            refine G.boolNe rfl trivial rfl rfl Try.underlying4 rfl rfl ?_
            refine G.moveB rfl trivial rfl rfl rfl ?_
            refine G.moveB rfl ⟨_, rfl, rfl, rfl⟩ rfl rfl rfl ?_
            first | refine G.notD rfl ⟨_, rfl, rfl, rfl⟩ rfl rfl rfl ?_ | refine G.not rfl ⟨_, rfl, rfl, rfl⟩ rfl rfl rfl ?_
            refine G.moveB rfl ⟨_, rfl, rfl, rfl⟩ rfl rfl rfl ?_
            refine G.moveI rfl ⟨_, rfl, rfl, rfl⟩ rfl rfl rfl ?_
            refine G.bin rfl ⟨_, rfl, rfl, rfl⟩ rfl rfl rfl rfl rfl ?_
            refine G.no (t := 93) rfl (by decide) ?_
            first | refine G.pickT rfl ⟨_, rfl, rfl, rfl⟩ rfl rfl rfl rfl ?_ | refine G.pickF rfl ⟨_, rfl, rfl, rfl⟩ rfl rfl rfl rfl ?_
            first | refine G.pickT rfl trivial rfl rfl rfl rfl ?_ | refine G.pickF rfl trivial rfl rfl rfl rfl ?_
            refine G.nil ?_
            refine C.condF rfl ?_
            refine C.skip ?_
            refine C.seq ?_
            refine C.region ?_
            refine G.moveB rfl trivial rfl rfl rfl ?_
            refine G.nil ?_
            refine C.condF rfl ?_
            refine C.skip ?_
            refine C.region ?_
            refine G.moveI rfl trivial rfl rfl rfl ?_
            refine G.add rfl trivial rfl rfl rfl rfl (by omega) ?_
            refine G.assignI rfl trivial rfl rfl rfl ?_
            refine G.less (fun _ h => h.tail) ?_
            refine G.nil ?_
            exact ⟨zs.length - (i + 1), by omega, i + 1, Qs, d, by omega, hag, hok, hlive, hlen, rfl, rfl, rfl, rfl, rfl, rfl, rfl, rfl, rfl⟩
      · intro hc3
        refine C.exit ?_
        refine C.seq ?_
        refine C.seq ?_
        refine C.region ?_
        refine G.assignI rfl trivial rfl rfl rfl ?_
        refine G.nil ?_
        refine C.block ?_
        refine C.loop (fun m F D' L' => ∃ j : Nat, j ≤ 96 ∧ m = 96 - j ∧ F 19 = .int .i64 j ∧ F 9 = ptr b9 ∧ F 8 = ptr bd ∧ F 2 = .int .i64 (s : Int) ∧ D' = [] ∧ [(b9, .row (slotsV Qs) 27 96)] :: pgSeg Qs :: devSeg bd bl d :: [] = L') ⟨_, ⟨0, by omega, rfl, rfl, rfl, rfl, rfl, rfl, rfl⟩⟩ ?_
        rintro m F D' L' ⟨j, hj, rfl, h19, h9, h8, h2', rfl, rfl⟩
        refine C.fix (d := 19) h19 ?_
        refine C.fix (d := 9) h9 ?_
        refine C.fix (d := 8) h8 ?_
        refine C.fix (d := 2) h2' ?_
        refine C.seq ?_
        refine C.seq ?_
        refine C.region ?_
        refine G.moveI rfl trivial rfl rfl rfl ?_
        refine G.bin rfl trivial rfl rfl rfl rfl rfl ?_
        refine G.nil ?_
        refine C.cond _ rfl ?_ ?_
        · intro hc7
          have hjl : j < 96 := by omega
          have hjQ : j < Qs.length := by rw [hag.1]; exact hjl
          refine C.skip ?_
          refine C.seq ?_
          refine C.block ?_
          refine C.seq ?_
          refine C.region ?_
          refine G.moveP rfl trivial rfl rfl rfl ?_
          refine G.moveI rfl trivial rfl rfl rfl ?_
          refine G.call E11 rfl rfl trivial rfl rfl (page_read W0 [_, _] _ bd bl d hok j hjl (by omega)) rfl ?_
          rintro e L2 ⟨v, seg, hv, rfl, rfl⟩
          rw [← hag.2 j hjQ] at hv
          have hv1 := hv.1
          obtain ⟨a146, c146, rfl, hr146⟩ := hv.form
          obtain ⟨u, hu⟩ := At.pg hjQ (L := devSeg bd bl d :: [])
          simp only [bytesV_length, Nat.mul_one] at hv1
          refine G.moveU rfl trivial rfl rfl rfl ?_
          refine G.extractL rfl trivial rfl rfl rfl rfl ?_
          refine G.extractL rfl trivial rfl rfl rfl rfl ?_
          refine G.assignS rfl trivial rfl rfl rfl ?_
          refine G.assignI rfl trivial rfl rfl rfl ?_
          refine G.nil ?_
          refine C.seq ?_
          refine C.drawn mixed (_) [] (fun _ h => h) ?_
          refine GA.pure (i := 0) (fun _ _ _ _ _ h => h) rfl (by kernel_rfl) trivial rfl rfl (Y.moveI rfl rfl) (#[true, false, false, false, false, false, false, false, false, false, false]) (by kernel_rfl) ?_
          refine GA.pure (i := 1) (fun _ _ _ _ _ h => h) rfl (by kernel_rfl) trivial rfl rfl (Y.bin rfl rfl rfl rfl) (#[true, true, false, false, false, false, false, false, false, false, false]) (by kernel_rfl) ?_
          refine GA.no (t := 150) rfl (by simp) ?_
          refine GA.pure (i := 2) (fun _ _ _ _ _ h => h) rfl (by kernel_rfl) trivial rfl rfl (Y.moveB rfl rfl) (#[true, true, true, false, false, false, false, false, false, false, false]) (by kernel_rfl) ?_
          refine GA.pure (i := 3) (fun _ _ _ _ _ h => h) rfl (by kernel_rfl) ⟨_, rfl, rfl, rfl⟩ rfl rfl (Y.moveS rfl rfl) (#[true, true, true, true, false, false, false, false, false, false, false]) (by kernel_rfl) ?_
          refine GA.read (i := 4) (fun _ _ _ _ _ h => h) rfl (by kernel_rfl) (by kernel_rfl) ⟨_, rfl, rfl, rfl⟩ rfl rfl (Y.bytesStr Qs[j].2 rfl Try.underlying23 Try.underlying5 Try.underlying9 rfl hv1.symm (hr146 _ _)) (#[true, true, true, true, true, false, false, false, false, false, false]) (by kernel_rfl) ?_
          refine GA.pure (i := 5) (fun _ _ _ _ _ h => h) rfl (by kernel_rfl) ⟨_, rfl, rfl, rfl⟩ rfl rfl (Y.moveI rfl rfl) (#[true, true, true, true, true, true, false, false, false, false, false]) (by kernel_rfl) ?_
          refine GA.pure (i := 6) (fun _ _ _ _ _ h => h) rfl (by kernel_rfl) ⟨_, rfl, rfl, rfl⟩ rfl rfl (Y.indexAddrArr rfl Try.underlying27 I23 rfl rfl (by omega)) (#[true, true, true, true, true, true, true, false, false, false, false]) (by kernel_rfl) ?_
          refine GA.read (i := 7) (fun _ _ _ _ _ h => h) rfl (by kernel_rfl) (by kernel_rfl) ⟨_, rfl, rfl, rfl⟩ rfl rfl (Y.loadAt (v := slotV Qs[j].1) (.next .here) rfl Try.underlying23 rfl rfl (slot_get hjQ)) (#[true, true, true, true, true, true, true, true, false, false, false]) (by kernel_rfl) ?_
          refine GA.read (i := 8) (fun _ _ _ _ _ h => h) rfl (by kernel_rfl) (by kernel_rfl) ⟨_, rfl, rfl, rfl⟩ rfl rfl (Y.bytesStr Qs[j].2 rfl Try.underlying23 Try.underlying5 Try.underlying9 rfl hv1.symm (Rd.row0 (.next (.next hu)))) (#[true, true, true, true, true, true, true, true, true, false, false]) (by kernel_rfl) ?_
          refine GA.pure (i := 9) (fun _ _ _ _ _ h => h) rfl (by kernel_rfl) ⟨_, rfl, rfl, rfl⟩ rfl rfl (Y.strNe rfl  rfl rfl) (#[true, true, true, true, true, true, true, true, true, true, false]) (by kernel_rfl) ?_
          refine GA.no (t := 158) rfl (by simp) ?_
          first | refine GA.pure (i := 10) (fun _ _ _ _ _ h => h) rfl (by kernel_rfl) trivial rfl rfl (Y.pickT rfl rfl rfl) (#[true, true, true, true, true, true, true, true, true, true, true]) (by kernel_rfl) ?_ | refine GA.pure (i := 10) (fun _ _ _ _ _ h => h) rfl (by kernel_rfl) trivial rfl rfl (Y.pickF rfl rfl rfl) (#[true, true, true, true, true, true, true, true, true, true, true]) (by kernel_rfl) ?_
          refine GA.done (by kernel_rfl) ?_
          refine C.condF rfl ?_
          refine C.skip ?_
          refine C.region ?_
          refine G.moveI rfl trivial rfl rfl rfl ?_
          refine G.add rfl trivial rfl rfl rfl rfl (by omega) ?_
          refine G.assignI rfl trivial rfl rfl rfl ?_
          refine G.less (fun _ h => h.tail) ?_
          refine G.nil ?_
          exact ⟨96 - (j + 1), by omega, j + 1, by omega, rfl, rfl, rfl, rfl, rfl, rfl, rfl⟩
        · intro hc7
          refine C.exit ?_
          refine C.seq ?_
          refine C.region ?_
          refine G.moveP rfl trivial rfl rfl rfl ?_
          refine G.moveI rfl trivial rfl rfl rfl ?_
          refine G.makeBytes (l := s) (c := s) rfl trivial rfl rfl Try.underlying23 I5 rfl rfl (by omega) ?_
          intro b162
          by_cases hs256 : s = 256
          ·
            subst hs256
            refine G.call E9 rfl rfl trivial rfl rfl (page_write W0 [_, _, _] _ bd bl d hok 1 (by decide) _ _ (List.replicate 256 0) (by simp only [List.length_replicate]) (by decide) (fun _ => Rd.row0 .here)) rfl ?_
            rintro e L2 ⟨rfl, rfl⟩
            rw [show (1 : Int) = ((1 : Nat) : Int) from rfl, pageW_live (n := 1) (by decide) (by simp only [List.length_replicate]) 4 (by decide) d hlive (by rw [hlen]; decide)]
            refine G.bin rfl trivial rfl rfl rfl rfl rfl ?_
            refine G.yes (t := 164) rfl rfl ?_
            refine G.moveI rfl trivial rfl rfl rfl ?_
            refine G.bin rfl trivial rfl rfl rfl rfl rfl ?_
            refine G.yes (t := 166) rfl (by omega) ?_
            refine G.boolEq rfl trivial rfl rfl Try.underlying4 rfl rfl ?_
            refine G.assignB rfl trivial rfl rfl rfl ?_
            refine G.nil ?_
            refine C.ret ?_
            -- end c2Fg48Tc3Fc7Fx163T
            exact ⟨rfl, _, Res.of (rs := [.tmp 6]) rfl rfl, rfl⟩
          ·
            refine G.call E9 rfl rfl trivial rfl rfl (page_write_form W0 _ _ 1 (by decide) _ _ _ hs256) rfl ?_
            rintro e L2 ⟨rfl, rfl⟩
            refine G.bin rfl trivial rfl rfl rfl rfl rfl ?_
            refine G.no (t := 164) rfl (by decide) ?_
            refine G.moveI rfl trivial rfl rfl rfl ?_
            refine G.bin rfl trivial rfl rfl rfl rfl rfl ?_
            refine G.no (t := 166) rfl (by omega) ?_
            refine G.boolEq rfl trivial rfl rfl Try.underlying4 rfl rfl ?_
            refine G.assignB rfl trivial rfl rfl rfl ?_
            refine G.nil ?_
            refine C.ret ?_
            -- end c2Fg48Tc3Fc7Fx163F
            exact ⟨rfl, _, Res.of (rs := [.tmp 6]) rfl rfl, rfl⟩
    · intro hg48
      refine G.skip rfl rfl rfl rfl rfl rfl ?_
      refine G.skip rfl rfl rfl rfl rfl rfl ?_
      first | refine G.pickT rfl trivial rfl rfl rfl rfl ?_ | refine G.pickF rfl trivial rfl rfl rfl rfl ?_
      refine G.nil ?_
      refine C.condF rfl ?_
      refine C.exit ?_
      refine C.seq ?_
      refine C.seq ?_
      refine C.region ?_
      refine G.assignI rfl trivial rfl rfl rfl ?_
      refine G.nil ?_
      refine C.block ?_
      refine C.loop (fun m F D' L' => ∃ j : Nat, j ≤ 96 ∧ m = 96 - j ∧ F 19 = .int .i64 j ∧ F 9 = ptr b9 ∧ F 8 = ptr bd ∧ F 2 = .int .i64 (s : Int) ∧ D' = [] ∧ [(b9, .row (slotsV Qs) 27 96)] :: pgSeg Qs :: devSeg bd bl d :: [] = L') ⟨_, ⟨0, by omega, rfl, rfl, rfl, rfl, rfl, rfl, rfl⟩⟩ ?_
      rintro m F D' L' ⟨j, hj, rfl, h19, h9, h8, h2', rfl, rfl⟩
      refine C.fix (d := 19) h19 ?_
      refine C.fix (d := 9) h9 ?_
      refine C.fix (d := 8) h8 ?_
      refine C.fix (d := 2) h2' ?_
      refine C.seq ?_
      refine C.seq ?_
      refine C.region ?_
      refine G.moveI rfl trivial rfl rfl rfl ?_
      refine G.bin rfl trivial rfl rfl rfl rfl rfl ?_
      refine G.nil ?_
      refine C.cond _ rfl ?_ ?_
      · intro hc7
        have hjl : j < 96 := by omega
        have hjQ : j < Qs.length := by rw [hag.1]; exact hjl
        refine C.skip ?_
        refine C.seq ?_
        refine C.block ?_
        refine C.seq ?_
        refine C.region ?_
        refine G.moveP rfl trivial rfl rfl rfl ?_
        refine G.moveI rfl trivial rfl rfl rfl ?_
        refine G.call E11 rfl rfl trivial rfl rfl (page_read W0 [_, _] _ bd bl d hok j hjl (by omega)) rfl ?_
        rintro e L2 ⟨v, seg, hv, rfl, rfl⟩
        rw [← hag.2 j hjQ] at hv
        have hv1 := hv.1
        obtain ⟨a146, c146, rfl, hr146⟩ := hv.form
        obtain ⟨u, hu⟩ := At.pg hjQ (L := devSeg bd bl d :: [])
        simp only [bytesV_length, Nat.mul_one] at hv1
        refine G.moveU rfl trivial rfl rfl rfl ?_
        refine G.extractL rfl trivial rfl rfl rfl rfl ?_
        refine G.extractL rfl trivial rfl rfl rfl rfl ?_
        refine G.assignS rfl trivial rfl rfl rfl ?_
        refine G.assignI rfl trivial rfl rfl rfl ?_
        refine G.nil ?_
        refine C.seq ?_
        refine C.drawn mixed (_) [] (fun _ h => h) ?_
        refine GA.pure (i := 0) (fun _ _ _ _ _ h => h) rfl (by kernel_rfl) trivial rfl rfl (Y.moveI rfl rfl) (#[true, false, false, false, false, false, false, false, false, false, false]) (by kernel_rfl) ?_
        refine GA.pure (i := 1) (fun _ _ _ _ _ h => h) rfl (by kernel_rfl) trivial rfl rfl (Y.bin rfl rfl rfl rfl) (#[true, true, false, false, false, false, false, false, false, false, false]) (by kernel_rfl) ?_
        refine GA.no (t := 150) rfl (by simp) ?_
        refine GA.pure (i := 2) (fun _ _ _ _ _ h => h) rfl (by kernel_rfl) trivial rfl rfl (Y.moveB rfl rfl) (#[true, true, true, false, false, false, false, false, false, false, false]) (by kernel_rfl) ?_
        refine GA.pure (i := 3) (fun _ _ _ _ _ h => h) rfl (by kernel_rfl) ⟨_, rfl, rfl, rfl⟩ rfl rfl (Y.moveS rfl rfl) (#[true, true, true, true, false, false, false, false, false, false, false]) (by kernel_rfl) ?_
        refine GA.read (i := 4) (fun _ _ _ _ _ h => h) rfl (by kernel_rfl) (by kernel_rfl) ⟨_, rfl, rfl, rfl⟩ rfl rfl (Y.bytesStr Qs[j].2 rfl Try.underlying23 Try.underlying5 Try.underlying9 rfl hv1.symm (hr146 _ _)) (#[true, true, true, true, true, false, false, false, false, false, false]) (by kernel_rfl) ?_
        refine GA.pure (i := 5) (fun _ _ _ _ _ h => h) rfl (by kernel_rfl) ⟨_, rfl, rfl, rfl⟩ rfl rfl (Y.moveI rfl rfl) (#[true, true, true, true, true, true, false, false, false, false, false]) (by kernel_rfl) ?_
        refine GA.pure (i := 6) (fun _ _ _ _ _ h => h) rfl (by kernel_rfl) ⟨_, rfl, rfl, rfl⟩ rfl rfl (Y.indexAddrArr rfl Try.underlying27 I23 rfl rfl (by omega)) (#[true, true, true, true, true, true, true, false, false, false, false]) (by kernel_rfl) ?_
        refine GA.read (i := 7) (fun _ _ _ _ _ h => h) rfl (by kernel_rfl) (by kernel_rfl) ⟨_, rfl, rfl, rfl⟩ rfl rfl (Y.loadAt (v := slotV Qs[j].1) (.next .here) rfl Try.underlying23 rfl rfl (slot_get hjQ)) (#[true, true, true, true, true, true, true, true, false, false, false]) (by kernel_rfl) ?_
        refine GA.read (i := 8) (fun _ _ _ _ _ h => h) rfl (by kernel_rfl) (by kernel_rfl) ⟨_, rfl, rfl, rfl⟩ rfl rfl (Y.bytesStr Qs[j].2 rfl Try.underlying23 Try.underlying5 Try.underlying9 rfl hv1.symm (Rd.row0 (.next (.next hu)))) (#[true, true, true, true, true, true, true, true, true, false, false]) (by kernel_rfl) ?_
        refine GA.pure (i := 9) (fun _ _ _ _ _ h => h) rfl (by kernel_rfl) ⟨_, rfl, rfl, rfl⟩ rfl rfl (Y.strNe rfl  rfl rfl) (#[true, true, true, true, true, true, true, true, true, true, false]) (by kernel_rfl) ?_
        refine GA.no (t := 158) rfl (by simp) ?_
        first | refine GA.pure (i := 10) (fun _ _ _ _ _ h => h) rfl (by kernel_rfl) trivial rfl rfl (Y.pickT rfl rfl rfl) (#[true, true, true, true, true, true, true, true, true, true, true]) (by kernel_rfl) ?_ | refine GA.pure (i := 10) (fun _ _ _ _ _ h => h) rfl (by kernel_rfl) trivial rfl rfl (Y.pickF rfl rfl rfl) (#[true, true, true, true, true, true, true, true, true, true, true]) (by kernel_rfl) ?_
        refine GA.done (by kernel_rfl) ?_
        refine C.condF rfl ?_
        refine C.skip ?_
        refine C.region ?_
        refine G.moveI rfl trivial rfl rfl rfl ?_
        refine G.add rfl trivial rfl rfl rfl rfl (by omega) ?_
        refine G.assignI rfl trivial rfl rfl rfl ?_
        refine G.less (fun _ h => h.tail) ?_
        refine G.nil ?_
        exact ⟨96 - (j + 1), by omega, j + 1, by omega, rfl, rfl, rfl, rfl, rfl, rfl, rfl⟩
      · intro hc7
        refine C.exit ?_
        refine C.seq ?_
        refine C.region ?_
        refine G.moveP rfl trivial rfl rfl rfl ?_
        refine G.moveI rfl trivial rfl rfl rfl ?_
        refine G.makeBytes (l := s) (c := s) rfl trivial rfl rfl Try.underlying23 I5 rfl rfl (by omega) ?_
        intro b162
        by_cases hs256 : s = 256
        ·
          subst hs256
          refine G.call E9 rfl rfl trivial rfl rfl (page_write W0 [_, _, _] _ bd bl d hok 1 (by decide) _ _ (List.replicate 256 0) (by simp only [List.length_replicate]) (by decide) (fun _ => Rd.row0 .here)) rfl ?_
          rintro e L2 ⟨rfl, rfl⟩
          rw [show (1 : Int) = ((1 : Nat) : Int) from rfl, pageW_live (n := 1) (by decide) (by simp only [List.length_replicate]) 4 (by decide) d hlive (by rw [hlen]; decide)]
          refine G.bin rfl trivial rfl rfl rfl rfl rfl ?_
          refine G.yes (t := 164) rfl rfl ?_
          refine G.moveI rfl trivial rfl rfl rfl ?_
          refine G.bin rfl trivial rfl rfl rfl rfl rfl ?_
          refine G.yes (t := 166) rfl (by omega) ?_
          refine G.boolEq rfl trivial rfl rfl Try.underlying4 rfl rfl ?_
          refine G.assignB rfl trivial rfl rfl rfl ?_
          refine G.nil ?_
          refine C.ret ?_
          -- end c2Fg48Fc7Fx163T
          exact ⟨rfl, _, Res.of (rs := [.tmp 6]) rfl rfl, rfl⟩
        ·
          refine G.call E9 rfl rfl trivial rfl rfl (page_write_form W0 _ _ 1 (by decide) _ _ _ hs256) rfl ?_
          rintro e L2 ⟨rfl, rfl⟩
          refine G.bin rfl trivial rfl rfl rfl rfl rfl ?_
          refine G.no (t := 164) rfl (by decide) ?_
          refine G.moveI rfl trivial rfl rfl rfl ?_
          refine G.bin rfl trivial rfl rfl rfl rfl rfl ?_
          refine G.no (t := 166) rfl (by omega) ?_
          refine G.boolEq rfl trivial rfl rfl Try.underlying4 rfl rfl ?_
          refine G.assignB rfl trivial rfl rfl rfl ?_
          refine G.nil ?_
          refine C.ret ?_
          -- end c2Fg48Fc7Fx163F
          exact ⟨rfl, _, Res.of (rs := [.tmp 6]) rfl rfl, rfl⟩
theorem all_walk_no (W0 : World) (a0 a1 : Option Addr) (c0 c1 m0 m1 : Nat) (s : Int) (h : ¬ (0 ≤ s ∧ s ≤ 300 ∧ m1 ≤ 300)) :
    FnS Try.prog W0 3 #[.slice a0 m0 c0, .slice a1 m1 c1, .int .i64 s] [] (fun e _ => e = .returned (.bool true)) := by
  refine FnS.of (args := [.slice a0 m0 c0, .slice a1 m1 c1, .int .i64 s]) Try.func3 rfl rfl ?_
  refine C.seq ?_
  refine C.region ?_
  refine G.assignB rfl trivial rfl rfl rfl ?_
  refine G.nil ?_
  refine C.seq ?_
  refine C.region ?_
  refine G.call E6 rfl rfl trivial rfl rfl (begun_spec W0 _) rfl ?_
  rintro e L2 ⟨rfl, rfl⟩
  refine G.assignB rfl trivial rfl rfl rfl ?_
  refine G.nil ?_
  refine C.seq ?_
  refine C.seq ?_
  refine C.region ?_
  refine G.moveB rfl trivial rfl rfl rfl ?_
  first | refine G.notD rfl trivial rfl rfl rfl ?_ | refine G.not rfl trivial rfl rfl rfl ?_
  refine G.nil ?_
  refine C.condF rfl ?_
  refine C.skip ?_
  refine C.seq ?_
  refine C.seq ?_
  refine C.region ?_
  refine G.moveI rfl trivial rfl rfl rfl ?_
  refine G.bin rfl trivial rfl rfl rfl rfl rfl ?_
  refine G.moveB rfl trivial rfl rfl rfl ?_
  refine G.fork (t := 27) _ rfl ?_ ?_
  · intro hg27
    refine G.skip rfl rfl rfl rfl rfl rfl ?_
    refine G.skip rfl rfl rfl rfl rfl rfl ?_
    first | refine G.pickT rfl trivial rfl rfl rfl rfl ?_ | refine G.pickF rfl trivial rfl rfl rfl rfl ?_
    refine G.moveB rfl trivial rfl rfl rfl ?_
    refine G.skip rfl rfl rfl rfl rfl rfl ?_
    refine G.skip rfl rfl rfl rfl rfl rfl ?_
    refine G.skip rfl rfl rfl rfl rfl rfl ?_
    first | refine G.pickT rfl trivial rfl rfl rfl rfl ?_ | refine G.pickF rfl trivial rfl rfl rfl rfl ?_
    refine G.nil ?_
    refine C.condT rfl ?_
    refine C.seq ?_
    refine C.region ?_
    refine G.assignB rfl trivial rfl rfl rfl ?_
    refine G.nil ?_
    refine C.ret ?_
    -- end g27T
    exact ⟨rfl, _, Res.of (rs := [.tmp 6]) rfl rfl, rfl⟩
  · intro hg27
    refine G.moveI rfl ⟨_, rfl, rfl, rfl⟩ rfl rfl rfl ?_
    refine G.bin rfl ⟨_, rfl, rfl, rfl⟩ rfl rfl rfl rfl rfl ?_
    first | refine G.pickT rfl trivial rfl rfl rfl rfl ?_ | refine G.pickF rfl trivial rfl rfl rfl rfl ?_
    refine G.moveB rfl trivial rfl rfl rfl ?_
    refine G.fork (t := 31) _ rfl ?_ ?_
    · intro hg31
      refine G.skip rfl rfl rfl rfl rfl rfl ?_
      refine G.skip rfl rfl rfl rfl rfl rfl ?_
      refine G.skip rfl rfl rfl rfl rfl rfl ?_
      first | refine G.pickT rfl trivial rfl rfl rfl rfl ?_ | refine G.pickF rfl trivial rfl rfl rfl rfl ?_
      refine G.nil ?_
      refine C.condT rfl ?_
      refine C.seq ?_
      refine C.region ?_
      refine G.assignB rfl trivial rfl rfl rfl ?_
      refine G.nil ?_
      refine C.ret ?_
      -- end g27Fg31T
      exact ⟨rfl, _, Res.of (rs := [.tmp 6]) rfl rfl, rfl⟩
    · intro hg31
      refine G.moveS rfl ⟨_, rfl, rfl, rfl⟩ rfl rfl rfl ?_
      refine G.lenSlice rfl ⟨_, rfl, rfl, rfl⟩ rfl rfl Try.underlying23 rfl ?_
      refine G.bin rfl ⟨_, rfl, rfl, rfl⟩ rfl rfl rfl rfl rfl ?_
      first | refine G.pickT rfl trivial rfl rfl rfl rfl ?_ | refine G.pickF rfl trivial rfl rfl rfl rfl ?_
      refine G.nil ?_
      refine C.cond _ rfl ?_ ?_
      · intro hc1
        refine C.seq ?_
        refine C.region ?_
        refine G.assignB rfl trivial rfl rfl rfl ?_
        refine G.nil ?_
        refine C.ret ?_
        -- end g27Fg31Fc1T
        exact ⟨rfl, _, Res.of (rs := [.tmp 6]) rfl rfl, rfl⟩
      · intro hc1
        omega
end Go.Proofs.Ytljcnombncjnnaa
