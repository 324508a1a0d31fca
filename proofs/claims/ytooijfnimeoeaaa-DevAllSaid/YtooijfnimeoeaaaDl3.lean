/-
  The law DevOwn, walked.
-/
import Derived.Test.YtooijfnimeoeaaaDl1
import Derived.Test.YtooijfnimeoeaaaSL9
namespace Go.Proofs.Ytooijfnimeoeaaa
open Go Go.SL Go.RowKit

theorem shortD_spec (W0 : World) (L : List Seg) (a : Option Addr) (c : Nat) (xs : List UInt8) (k : Nat) {l : Nat} (hl : l = xs.length) (hc : xs.length ≤ c) :
   FnS Try.prog W0 11 #[.slice a l c, .int .i64 k] L (fun e L' => L' = L ∧ e = .returned (.slice a (xs.take k).length c)) := by
  subst hl
  refine FnS.of (args := [.slice a xs.length c, .int .i64 k]) Try.func11 rfl rfl ?_
  refine C.seq ?_
  refine C.region ?_
  refine G.assignS rfl trivial rfl rfl rfl ?_
  refine G.nil ?_
  refine C.seq ?_
  refine C.seq ?_
  refine C.region ?_
  refine G.moveS rfl trivial rfl rfl rfl ?_
  refine G.lenSlice rfl trivial rfl rfl Try.underlying31 rfl ?_
  refine G.moveI rfl trivial rfl rfl rfl ?_
  refine G.bin rfl trivial rfl rfl rfl rfl rfl ?_
  refine G.nil ?_
  refine C.cond _ rfl ?_ ?_
  · intro hc0
    refine C.seq ?_
    refine C.region ?_
    refine G.moveS rfl trivial rfl rfl rfl ?_
    refine G.moveI rfl trivial rfl rfl rfl ?_
    refine G.sliceH rfl trivial rfl rfl Try.underlying31 I5 rfl rfl (by omega) ?_
    refine G.assignS rfl trivial rfl rfl rfl ?_
    refine G.nil ?_
    refine C.ret ?_
    -- end c0T
    exact ⟨rfl, _, Res.of (rs := [.tmp 4]) rfl rfl, rfl, congrArg (fun q => Ending.returned (.slice a q c)) (show ((k : Int)).toNat = (xs.take k).length by rw [List.length_take]; omega)⟩
  · intro hc0
    refine C.skip ?_
    refine C.seq ?_
    refine C.region ?_
    refine G.moveS rfl trivial rfl rfl rfl ?_
    refine G.assignS rfl trivial rfl rfl rfl ?_
    refine G.nil ?_
    refine C.ret ?_
    -- end c0F
    exact ⟨rfl, _, Res.of (rs := [.tmp 4]) rfl rfl, rfl, congrArg (fun q => Ending.returned (.slice a q c)) (show xs.length = (xs.take k).length by rw [List.length_take]; omega)⟩
theorem over_zero (xs : List UInt8) (h : xs.length ≤ 64) : over xs zero64 = xs ++ List.replicate (64 - xs.length) 0 := by
  unfold over zero64
  rw [List.drop_replicate]
theorem looses_lengthD : ∀ (l : List Sec) (k : Nat), (looses l k).length = loosN l
  | [], _ => rfl
  | s :: l, k => by
    simp only [looses, List.length_append, looses_lengthD l, loosN, List.countP_cons]
    split <;> simp <;> omega
theorem own_walk (W0 : World) (a0 : Option Addr) (c0 : Nat) (xs0 : List UInt8) (h0 : xs0.length ≤ c0) (r0 : ∀ L, Rd W0 L a0 (bytesV xs0)) :
    FnS Try.prog W0 4 #[.slice a0 xs0.length c0] [] (fun e _ => e = .returned (.bool true)) := by
  have hx : (xs0.take 64).length ≤ 64 := by simp; omega
  have q0 : ∀ L, Rd W0 L a0 (bytesV (xs0.take 64)) := fun L => by rw [← bytesV_take]; exact (r0 L).take
  refine FnS.of (args := [.slice a0 xs0.length c0]) Try.func4 rfl rfl ?_
  refine C.seq ?_
  refine C.region ?_
  refine G.assignB rfl trivial rfl rfl rfl ?_
  refine G.nil ?_
  refine C.seq ?_
  refine C.region ?_
  refine G.call E9 rfl rfl trivial rfl rfl (beganD_spec W0 _) rfl ?_
  rintro e L2 ⟨rfl, rfl⟩
  refine G.assignB rfl trivial rfl rfl rfl ?_
  refine G.nil ?_
  refine C.seq ?_
  refine C.seq ?_
  refine C.region ?_
  refine G.moveB rfl trivial rfl rfl rfl ?_
  first | refine G.notD rfl trivial rfl rfl rfl ?_ | refine G.not rfl trivial rfl rfl rfl ?_
  refine G.nil ?_
  refine C.condF rfl ?_
  refine C.skip ?_
  refine C.seq ?_
  refine C.region ?_
  refine G.moveS rfl trivial rfl rfl rfl ?_
  refine G.call E11 rfl rfl trivial rfl rfl (shortD_spec W0 _ a0 c0 xs0 64 rfl h0) rfl ?_
  rintro e L2 ⟨rfl, rfl⟩
  generalize xs0.take 64 = xs at *
  refine G.appendNil rfl trivial rfl rfl Try.underlying31 Try.underlying31 I5 rfl (by decide) rfl (by decide) (q0 _) (by simp) bytesV_ok (by omega) ?_
  intro v sb hvb
  obtain ⟨ab, cb, rfl, hrb⟩ := hvb.form
  refine G.assignS rfl trivial rfl rfl rfl ?_
  refine G.nil ?_
  refine C.seq ?_
  refine C.region ?_
  refine G.call E10 rfl rfl trivial rfl rfl (new_spec W0 _ 2) rfl ?_
  rintro e L2 ⟨bd, bl, rfl, rfl⟩
  rw [show clampN 2 = 2 from rfl]
  have hok0 : (newDv 2).ok := newDv_ok (by decide)
  have hlive0 := newDv_live 2
  have hlen0 : (newDv 2).l.length = 2 := rfl
  have hn0 : ∀ h : 0 < (newDv 2).l.length, (newDv 2).l[0].now = zero64 := fun _ => rfl
  have hlo0 : loosN ((newDv 2).put 0 xs).l = 1 := rfl
  generalize newDv 2 = d0 at *
  refine G.assignP rfl trivial rfl rfl rfl ?_
  refine G.nil ?_
  refine C.seq ?_
  refine C.region ?_
  refine G.moveP rfl trivial rfl rfl rfl ?_
  refine G.moveS rfl trivial rfl rfl rfl ?_
  refine G.call E13 rfl rfl trivial rfl rfl (write_ok W0 [] _ bd bl d0 hok0 hlive0.notDead 0 (by omega) _ _ xs hx (hrb W0 _).cons) rfl ?_
  rintro e L2 ⟨rfl, rfl⟩
  have hok1 : (d0.put 0 xs).ok := Dv.put_ok hok0 hlive0.notDead hx
  have hlen1 : (d0.put 0 xs).l.length = 2 := by show (d0.l.modify _ _).length = 2; rw [List.length_modify]; exact hlen0
  have hn1 : ∀ h : 0 < (d0.put 0 xs).l.length, (d0.put 0 xs).l[0].now = xs ++ List.replicate (64 - xs.length) 0 := fun h => by show ((d0.l.modify 0 (·.put xs))[0]'(by rw [List.length_modify]; omega)).now = _; rw [List.getElem_modify, if_pos rfl, ← over_zero xs hx]; show over xs (d0.l[0]).now = _; rw [hn0]
  generalize d0.put 0 xs = d1 at *
  have hxx : xs.length + (64 - xs.length) = 64 := by omega
  refine G.nil ?_
  refine C.seq ?_
  refine C.drawn mixed (_) [] (fun _ h => h) ?_
  refine GA.pure (i := 0) (fun _ _ _ _ _ h => h) rfl (by kernel_rfl) trivial rfl rfl (Y.moveS rfl rfl) (#[true, false, false, false, false, false, false, false, false]) (by kernel_rfl) ?_
  refine GA.read (i := 1) (fun _ _ _ _ _ h => h) rfl (by kernel_rfl) (by kernel_rfl) trivial rfl rfl (Y.bytesStr xs rfl Try.underlying31 Try.underlying5 Try.underlying9 rfl rfl (hrb W0 _).cons) (#[true, true, false, false, false, false, false, false, false]) (by kernel_rfl) ?_
  refine GA.pure (i := 2) (fun _ _ _ _ _ h => h) rfl (by kernel_rfl) trivial rfl rfl (Y.moveS rfl rfl) (#[true, true, true, false, false, false, false, false, false]) (by kernel_rfl) ?_
  refine GA.pure (i := 3) (fun _ _ _ _ _ h => h) rfl (by kernel_rfl) trivial rfl rfl (Y.lenSlice rfl Try.underlying31 rfl) (#[true, true, true, true, false, false, false, false, false]) (by kernel_rfl) ?_
  refine GA.pure (i := 4) (fun _ _ _ _ _ h => h) rfl (by kernel_rfl) trivial rfl rfl (Y.sub rfl rfl rfl (by omega)) (#[true, true, true, true, true, false, false, false, false]) (by kernel_rfl) ?_
  refine GA.fix (d := 27) (v := .int .i64 ((64 - xs.length : Nat) : Int)) (by show Value.int .i64 _ = _; congr 1; omega) ?_
  refine GA.one (i := 5) rfl (by kernel_rfl) (#[true, true, true, true, true, true, false, false, false]) (by kernel_rfl) ?_
  refine G.makeBytes (l := 64 - xs.length) (c := 64 - xs.length) rfl trivial rfl rfl Try.underlying31 I5 rfl rfl (by omega) ?_
  intro b28
  refine G.nil ?_
  refine ⟨fun _ _ h => h.tail, ?_⟩
  refine GA.one (i := 6) rfl (by kernel_rfl) (#[true, true, true, true, true, true, true, false, false]) (by kernel_rfl) ?_
  refine G.bytesStr (List.replicate (64 - xs.length) 0) rfl trivial rfl rfl Try.underlying31 Try.underlying5 Try.underlying9 rfl (by simp) (Rd.row0 .here) ?_
  refine G.nil ?_
  refine ⟨fun _ _ h => h.tail, ?_⟩
  refine GA.pure (i := 7) (fun _ _ _ _ _ h => h) rfl (by kernel_rfl) trivial rfl rfl (Y.strAdd rfl (by simp; omega) rfl rfl) (#[true, true, true, true, true, true, true, true, false]) (by kernel_rfl) ?_
  refine GA.pure (i := 8) (fun _ _ _ _ _ h => h) rfl (by kernel_rfl) trivial rfl rfl (Y.assignT rfl rfl) (#[true, true, true, true, true, true, true, true, true]) (by kernel_rfl) ?_
  refine GA.done (by kernel_rfl) ?_
  refine C.seq ?_
  refine C.seq ?_
  refine C.region ?_
  refine G.moveS rfl trivial rfl rfl rfl ?_
  refine G.lenSlice rfl trivial rfl rfl Try.underlying31 rfl ?_
  refine G.moveI rfl trivial rfl rfl rfl ?_
  refine G.less (L' := sb :: devSeg bd bl d1 :: []) (fun _ h => h.tail.perm2) ?_
  refine G.nil ?_
  refine C.block ?_
  refine C.loop (fun m F D' L' => ∃ (i : Nat) (ys : List UInt8) (sg : Seg), i ≤ xs.length ∧ OwnS (.slice ab xs.length cb) xs.length (bytesV ys) 5 1 sg ∧ m = xs.length - i ∧ F 33 = .int .i64 i ∧ F 32 = .int .i64 (xs.length : Nat) ∧ F 0 = .slice ab xs.length cb ∧ F 4 = ptr bd ∧ F 5 = .string (strB xs ++ strB (List.replicate (64 - xs.length) 0)) ∧ D' = [] ∧ sg :: devSeg bd bl d1 :: [] = L') ⟨_, ⟨0, xs, sb, by omega, hvb, rfl, rfl, rfl, rfl, rfl, rfl, rfl, rfl⟩⟩ ?_
  rintro m F D' L' ⟨i, ys, sg, hi, hown, rfl, h33, h32, h0', h4, h5, rfl, rfl⟩
  refine C.fix (d := 33) h33 ?_
  refine C.fix (d := 32) h32 ?_
  refine C.fix (d := 0) h0' ?_
  refine C.fix (d := 4) h4 ?_
  refine C.fix (d := 5) h5 ?_
  refine C.seq ?_
  refine C.region ?_
  refine G.bin rfl trivial rfl rfl rfl rfl rfl ?_
  refine G.nil ?_
  refine C.seq ?_
  refine C.cond _ rfl ?_ ?_
  · intro hc1
    have hlt : i < xs.length := by omega
    obtain ⟨bb, cc, kk, e1, rfl, hk1, hk2⟩ := hown.block (by omega)
    have hyl : ys.length = xs.length := by have h := hown.1; simp only [bytesV_length] at h; omega
    obtain ⟨rfl, _, rfl⟩ : ab = some ⟨bb, 0, none⟩ ∧ xs.length = xs.length ∧ cb = cc := by simpa using e1
    refine C.skip ?_
    refine C.seq ?_
    refine C.block ?_
    refine C.seq ?_
    refine C.region ?_
    refine G.moveI rfl trivial rfl rfl rfl ?_
    refine G.assignI rfl trivial rfl rfl rfl ?_
    refine G.nil ?_
    refine C.region ?_
    refine G.moveS rfl trivial rfl rfl rfl ?_
    refine G.moveI rfl trivial rfl rfl rfl ?_
    refine G.indexAddr rfl trivial rfl rfl Try.underlying31 I5 rfl rfl (by omega) ?_
    refine G.loadAt (v := .int .u8 (ys[i].toNat : Int)) .here rfl trivial rfl rfl Try.underlying5 rfl rfl (by rw [show 0 + (i : Int).toNat * 1 = i by simp]; exact bytesV_at (by omega)) ?_
    refine G.bin rfl trivial rfl rfl rfl rfl rfl ?_
    refine G.fix (d := 40) (v := .int .u8 ((ys[i] + 1).toNat : Int)) (u8_add1 _) ?_
    refine G.indexAddr rfl trivial rfl rfl Try.underlying31 I5 rfl rfl (by omega) ?_
    refine G.store .here rfl trivial rfl I5 rfl rfl rfl (by simp; omega) _ ((congrArg (fun q => (bytesV ys).set q (.int .u8 ((ys[i] + 1).toNat : Int))) (show 0 + (i : Int).toNat * 1 = i by simp)).trans (bytesV_set _ _ _)) ?_
    refine G.nil ?_
    refine C.region ?_
    refine G.add rfl trivial rfl rfl rfl rfl (by omega) ?_
    refine G.moveI rfl trivial rfl rfl rfl ?_
    refine G.nil ?_
    exact ⟨xs.length - (i + 1), by omega, i + 1, ys.set i (ys[i] + 1), _, by omega, OwnS.mk (by simp [hyl]) hk1 hk2, rfl, rfl, rfl, rfl, rfl, rfl, rfl, rfl⟩
  · intro hc1
    refine C.exit ?_
    refine C.seq ?_
    refine C.region ?_
    refine G.moveP rfl trivial rfl rfl rfl ?_
    refine G.call E21 rfl rfl trivial rfl rfl (read_ok W0 [_] _ bd bl d1 hok1 0 (by omega)) rfl ?_
    rintro e L2 ⟨v, sx, hvx, rfl, rfl⟩
    rw [hn1] at hvx
    obtain ⟨bx, cx, kx, rfl, rfl, hkx1, hkx2⟩ := hvx.block (by decide)
    refine G.less (fun _ h => h.skip1) ?_
    generalize hX : xs ++ List.replicate (64 - xs.length) 0 = X at *
    have hXl : X.length = 64 := by rw [← hX]; simp; omega
    refine G.moveU rfl trivial rfl rfl rfl ?_
    refine G.extractL rfl trivial rfl rfl rfl rfl ?_
    refine G.extractL rfl trivial rfl rfl rfl rfl ?_
    refine G.assignS rfl trivial rfl rfl rfl ?_
    refine G.assignI rfl trivial rfl rfl rfl ?_
    refine G.nil ?_
    refine C.seq ?_
    refine C.seq ?_
    refine C.region ?_
    refine G.moveS rfl trivial rfl rfl rfl ?_
    refine G.lenSlice rfl trivial rfl rfl Try.underlying31 rfl ?_
    refine G.moveI rfl trivial rfl rfl rfl ?_
    refine G.nil ?_
    refine C.block ?_
    refine C.loop (fun m F D' L' => ∃ (i : Nat) (ys : List UInt8), i ≤ 64 ∧ ys.length = 64 ∧ m = 64 - i ∧ F 50 = .int .i64 i ∧ F 49 = .int .i64 (64 : Nat) ∧ F 7 = .slice (some ⟨bx, 0, none⟩) 64 cx ∧ F 4 = ptr bd ∧ F 5 = .string (strB X) ∧ D' = [] ∧ [(bx, .row (bytesV ys) 5 kx)] :: devSeg bd bl d1 :: [] = L') ⟨_, ⟨0, X, by omega, hXl, rfl, rfl, rfl, rfl, rfl, (by show Value.string (strB xs ++ strB (List.replicate (64 - xs.length) 0)) = _; rw [strB_append, hX]), rfl, rfl⟩⟩ ?_
    rintro m F D' L' ⟨i, ys, hi, hyl, rfl, h50, h49, h7, h4, h5, rfl, rfl⟩
    refine C.fix (d := 50) h50 ?_
    refine C.fix (d := 49) h49 ?_
    refine C.fix (d := 7) h7 ?_
    refine C.fix (d := 4) h4 ?_
    refine C.fix (d := 5) h5 ?_
    refine C.seq ?_
    refine C.region ?_
    refine G.bin rfl trivial rfl rfl rfl rfl rfl ?_
    refine G.nil ?_
    refine C.seq ?_
    refine C.cond _ rfl ?_ ?_
    · intro hc2
      have hlt : i < 64 := by omega
      refine C.skip ?_
      refine C.seq ?_
      refine C.block ?_
      refine C.seq ?_
      refine C.region ?_
      refine G.moveI rfl trivial rfl rfl rfl ?_
      refine G.assignI rfl trivial rfl rfl rfl ?_
      refine G.nil ?_
      refine C.region ?_
      refine G.moveS rfl trivial rfl rfl rfl ?_
      refine G.moveI rfl trivial rfl rfl rfl ?_
      refine G.indexAddr rfl trivial rfl rfl Try.underlying31 I5 rfl rfl (by omega) ?_
      refine G.loadAt (v := .int .u8 (ys[i].toNat : Int)) .here rfl trivial rfl rfl Try.underlying5 rfl rfl (by rw [show 0 + (i : Int).toNat * 1 = i by simp]; exact bytesV_at (by omega)) ?_
      refine G.bin rfl trivial rfl rfl rfl rfl rfl ?_
      refine G.fix (d := 57) (v := .int .u8 ((ys[i] + 1).toNat : Int)) (u8_add1 _) ?_
      refine G.indexAddr rfl trivial rfl rfl Try.underlying31 I5 rfl rfl (by omega) ?_
      refine G.store .here rfl trivial rfl I5 rfl rfl rfl (by simp; omega) _ ((congrArg (fun q => (bytesV ys).set q (.int .u8 ((ys[i] + 1).toNat : Int))) (show 0 + (i : Int).toNat * 1 = i by simp)).trans (bytesV_set _ _ _)) ?_
      refine G.nil ?_
      refine C.region ?_
      refine G.add rfl trivial rfl rfl rfl rfl (by omega) ?_
      refine G.moveI rfl trivial rfl rfl rfl ?_
      refine G.nil ?_
      exact ⟨64 - (i + 1), by omega, i + 1, ys.set i (ys[i] + 1), by omega, by rw [List.length_set]; exact hyl, rfl, rfl, rfl, rfl, rfl, rfl, rfl, rfl⟩
    · intro hc2
      refine C.exit ?_
      refine C.seq ?_
      refine C.region ?_
      refine G.moveP rfl trivial rfl rfl rfl ?_
      refine G.buildSliceL (cs := [.bool true]) (zs := [(.bool false)]) rfl trivial rfl rfl Try.underlying28 I4 rfl (by kernel_rfl) rfl rfl ?_
      intro b61
      refine G.call E17 rfl rfl trivial rfl rfl (crash_spec W0 [_, _] _ bd bl d1 hok1 (by omega) _ 1 [true] (Nat.le_refl _) (fun _ => Rd.row0 (cs := [true].map Value.bool) (.app .here))) rfl ?_
      rintro e L2 ⟨be, bel, rfl, rfl⟩
      have heok := crash_ok hok1 [true]
      generalize d1.crash [true] = de at *
      refine G.assignP rfl trivial rfl rfl rfl ?_
      refine G.nil ?_
      refine C.seq ?_
      refine C.region ?_
      refine G.moveP rfl trivial rfl rfl rfl ?_
      refine G.buildSliceL (cs := [.int .u8 1, .int .u8 2, .int .u8 3]) (zs := [(.int .u8 0), (.int .u8 0), (.int .u8 0)]) rfl trivial rfl rfl Try.underlying31 I5 rfl (by kernel_rfl) rfl rfl ?_
      intro b64
      refine G.call E13 rfl rfl trivial rfl rfl (write_spec W0 [_] _ be bel de heok 0 _ 3 3 [1, 2, 3] rfl (fun _ => Rd.row0 (cs := bytesV [1, 2, 3]) .here)) rfl ?_
      rintro e L2 ⟨rfl, rfl⟩
      refine G.nil ?_
      refine C.seq ?_
      refine C.region ?_
      refine G.moveP rfl trivial rfl rfl rfl ?_
      refine G.call E21 rfl rfl trivial rfl rfl (read_ok W0 [_, _, _, _] _ bd bl d1 hok1 0 (by omega)) rfl ?_
      rintro e L2 ⟨v, sy, hvy, rfl, rfl⟩
      rw [hn1] at hvy
      obtain ⟨ay, cy, rfl, hry⟩ := hvy.form
      refine G.moveU rfl trivial rfl rfl rfl ?_
      refine G.extractL rfl trivial rfl rfl rfl rfl ?_
      refine G.extractL rfl trivial rfl rfl rfl rfl ?_
      refine G.assignS rfl trivial rfl rfl rfl ?_
      refine G.assignI rfl trivial rfl rfl rfl ?_
      refine G.nil ?_
      refine C.seq ?_
      refine C.region ?_
      refine G.moveI rfl trivial rfl rfl rfl ?_
      refine G.bin rfl trivial rfl rfl rfl rfl rfl ?_
      refine G.yes (t := 72) rfl rfl ?_
      refine G.moveB rfl trivial rfl rfl rfl ?_
      refine G.moveS rfl ⟨_, rfl, rfl, rfl⟩ rfl rfl rfl ?_
      refine G.bytesStr X rfl ⟨_, rfl, rfl, rfl⟩ rfl rfl Try.underlying31 Try.underlying5 Try.underlying9 rfl hXl.symm (hry W0 _) ?_
      refine G.moveT rfl ⟨_, rfl, rfl, rfl⟩ rfl rfl rfl ?_
      refine G.strEq rfl ⟨_, rfl, rfl, rfl⟩ rfl rfl  rfl rfl ?_
      refine G.yes (t := 77) rfl rfl ?_
      first | refine G.pickT rfl trivial rfl rfl rfl rfl ?_ | refine G.pickF rfl trivial rfl rfl rfl rfl ?_
      refine G.moveB rfl trivial rfl rfl rfl ?_
      refine G.moveP rfl ⟨_, rfl, rfl, rfl⟩ rfl rfl rfl ?_
      refine G.call E22 rfl rfl ⟨_, rfl, rfl, rfl⟩ rfl rfl (loose_spec W0 [_, _, _, _, _] _ bd bl d1 hok1) rfl ?_
      rintro e L2 ⟨v, sl, hvl, rfl, rfl⟩
      rw [looses_lengthD, hlo0] at hvl
      obtain ⟨al, cl, rfl, hrl⟩ := hvl.form
      refine G.lenSlice rfl ⟨_, rfl, rfl, rfl⟩ rfl rfl Try.underlying46 rfl ?_
      refine G.bin rfl ⟨_, rfl, rfl, rfl⟩ rfl rfl rfl rfl rfl ?_
      refine G.yes (t := 83) rfl rfl ?_
      first | refine G.pickT rfl trivial rfl rfl rfl rfl ?_ | refine G.pickF rfl trivial rfl rfl rfl rfl ?_
      refine G.assignB rfl trivial rfl rfl rfl ?_
      refine G.nil ?_
      refine C.ret ?_
      -- end c1Fc2F
      exact ⟨rfl, _, Res.of (rs := [.tmp 2]) rfl rfl, rfl⟩
end Go.Proofs.Ytooijfnimeoeaaa
