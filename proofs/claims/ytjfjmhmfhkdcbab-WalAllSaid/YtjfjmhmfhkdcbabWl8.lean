/-
  The log: made, opened; walked.
-/
import Derived.Test.YtjfjmhmfhkdcbabWl7
namespace Go.Proofs.Ytjfjmhmfhkdcbab
open Go Go.SL Go.RowKit

theorem fill_step {places : List (Nat × Nat)} {cs : List Value} {i off : Nat} {v : Value} {rest : List (Nat × Value)} (hp : places[i]? = some (off, 1)) (hv : v.cells.toList = [v]) (hl : off < cs.length) : fillL places cs ((i, v) :: rest) = fillL places (cs.set off v) rest := by
  have h1 : Nat.ble (off + 1) cs.length = true := Nat.ble_eq_true_of_le hl
  show (match places[i]? with
    | none => none
    | some (off, size) => bif Nat.beq v.cells.toList.length size && Nat.ble (off + v.cells.toList.length) cs.length then fillL places (setAt cs off v.cells.toList) rest else none) = _
  rw [hp, hv]
  show (bif Nat.beq 1 1 && Nat.ble (off + 1) cs.length then fillL places (setAt cs off [v]) rest else none) = _
  rw [h1]
  rfl
abbrev logPlaces : List (Nat × Nat) := [(0, 1), (1, 1), (2, 65536), (65538, 1), (65539, 1), (65540, 1), (65541, 1), (65542, 1)]
theorem fill_log0 (bd bs : Nat) {zs : List Value} (hz : zs = List.replicate 65536 (.int .u8 0)) (rest : List (Nat × Value)) : fillL logPlaces zero66 ((0, ptr bd) :: (1, ptr bs) :: rest) = fillL logPlaces (logRow bd bs zs 0 0 0 (.slice none 0 0) false) rest := by
  rw [show zero66 = _ from Z66, ← hz]
  have hl : zs.length = 65536 := by rw [hz, List.length_replicate]
  rw [fill_step (off := 0) rfl rfl (by simp), fill_step (off := 1) rfl rfl (by simp)]
  rfl
theorem fill_log3 (bd bs : Nat) {zs : List Value} (hz : zs = List.replicate 65536 (.int .u8 0)) (b e : Int) : fillL logPlaces zero66 [(0, ptr bd), (1, ptr bs), (3, .int .i64 b), (4, .int .i64 e), (5, .int .i64 e)] = some (logRow bd bs zs b e e (.slice none 0 0) false) := by
  have hl : zs.length = 65536 := by rw [hz, List.length_replicate]
  rw [fill_log0 bd bs hz, fill_step (off := 65538) rfl rfl (by rw [lr_length hl]; decide), lr_setBase hl, fill_step (off := 65539) rfl rfl (by rw [lr_length hl]; decide), lr_setForced hl, fill_step (off := 65540) rfl rfl (by rw [lr_length hl]; decide), lr_setEnd hl]
  rfl
theorem zeros_ring {zs : List Value} (hz : zs = List.replicate 65536 (.int .u8 0)) : ringV (fun _ => 0) zs := by
  refine ⟨by rw [hz, List.length_replicate], fun p hp => ?_⟩
  rw [hz, List.getElem?_replicate, if_pos hp]
  rfl
theorem Mem.drop4 {W0 w : World} {a b c d : Seg} {L : List Seg} (h : Mem W0 w (a :: b :: c :: d :: L)) : Mem W0 w (a :: b :: c :: L) := by
  have h2 : Mem W0 w (d :: a :: b :: c :: L) := h.up4
  exact h2.tail
def newLg (R : Nat → UInt8) (base e : Nat) : Lg := { R := R, base := base, forced := e, end_ := e, ends := [], bad := false }
theorem newLok {R : Nat → UInt8} {base : Nat} {rs : List (List UInt8)} (h : Has R base (strm rs)) (hr : recsOk rs) (hl : size rs ≤ 65536) : Lok (newLg R base (base + size rs)) rs [] := by
  refine ⟨rfl, rfl, rfl, by simpa [size_nil] using hl, by simpa using hr, rfl, by simpa [newLg] using h⟩
section
variable (W0 : World) (S L0 : List Seg) (bg bs bd bl : Nat)
theorem walmake_spec (d : Dv) (hd : d.ok) (hv : d.live) (hn : d.l.length = 1410) :
    FnS Try.prog W0 6 #[ptr bd] (S ++ (devSeg bd bl d :: L0)) (fun r L' => ∃ bg bs sg sp d' p, L' = sg :: sp :: devSeg bd bl d' :: (S ++ L0) ∧ LgIs bg bs bd (newLg (dby d') 0 0) sg ∧ SpIs bs bd p sp ∧ Wd d' p 1 0 [] ∧ d'.live ∧ r = .returned (.tuple #[ptr bg, .int .i64 0])) := by
  have htl := txt_length (b := 0) (e := 0) (by decide) (by decide)
  obtain ⟨zs, hz⟩ : ∃ zs : List Value, zs = List.replicate 65536 (.int .u8 0) := ⟨_, rfl⟩
  have hzr := zeros_ring hz
  have hw : Wd (mkD d 0 (txt 0 0)) { at_ := 0, slot := 0, turn := 1, text := txt 0 0 } 1 0 [] := ⟨mkD_ok hd hv 0 (by omega), by rw [mkD_length]; exact hn, Slots.made d hd hv 0 (by omega) (by omega), rfl, rfl, fun k _ => by (show lastAt (Dv.flush _) k = nowAt (Dv.flush _) k; rw [lastAt_flush, nowAt_flush]), Has.nil _ _, Has.nil _ _⟩
  have hlv := mkD_live hv 0 (txt 0 0)
  refine FnS.of (args := [ptr bd]) Try.func6 rfl rfl ?_
  refine C.seq ?_
  refine C.region ?_
  refine G.assignP rfl trivial rfl rfl rfl ?_
  refine G.assignI rfl trivial rfl rfl rfl ?_
  refine G.nil ?_
  refine C.seq ?_
  refine C.seq ?_
  refine C.region ?_
  refine G.moveP rfl trivial rfl rfl rfl ?_
  refine G.call E19 rfl rfl trivial rfl rfl (len_spec W0 S L0 bd bl d) rfl ?_
  rintro e L2 ⟨rfl, rfl⟩
  refine G.bin rfl trivial rfl rfl rfl rfl rfl ?_
  refine G.nil ?_
  refine C.no rfl (by omega) ?_
  refine C.skip ?_
  refine C.seq ?_
  refine C.region ?_
  refine G.moveP rfl trivial rfl rfl rfl ?_
  refine G.call E21 rfl rfl trivial rfl rfl (text2_spec W0 _ 0 0 (by decide) (by decide)) rfl ?_
  rintro e L2 ⟨v12, s12, hv12, rfl, rfl⟩
  obtain ⟨a12, c12, rfl, hr12⟩ := hv12.form
  refine G.call E20 rfl rfl trivial rfl rfl (make_ok W0 ([s12] ++ S) L0 bd bl d hd hv 0 (by omega) a12 c12 (txt 0 0) (by omega) (fun S' => Rd.under hr12 S')) rfl ?_
  rintro e L2 ⟨bs, sp, hsp, rfl, rfl⟩
  generalize mkD d 0 (txt 0 0) = d1 at *
  refine G.moveU rfl trivial rfl rfl rfl ?_
  refine G.extractL rfl trivial rfl rfl rfl rfl ?_
  refine G.extractL rfl trivial rfl rfl rfl rfl ?_
  refine G.assignP rfl trivial rfl rfl rfl ?_
  refine G.assignI rfl trivial rfl rfl rfl ?_
  refine G.nil ?_
  refine C.seq ?_
  refine C.seq ?_
  refine C.region ?_
  refine G.moveI rfl trivial rfl rfl rfl ?_
  refine G.bin rfl trivial rfl rfl rfl rfl rfl ?_
  refine G.nil ?_
  refine C.no rfl (by simp) ?_
  refine C.skip ?_
  refine C.seq ?_
  refine C.region ?_
  refine G.moveP rfl trivial rfl rfl rfl ?_
  refine G.moveP rfl trivial rfl rfl rfl ?_
  refine G.buildL (cs := logRow bd bs zs 0 0 0 (.slice none 0 0) false) rfl trivial rfl rfl Try.underlying66 I66 B66 rfl (fill_log0 bd bs hz []) ?_
  refine G.boxG rfl trivial rfl rfl rfl ?_
  intro bg
  rw [lr_length hzr.1]
  refine G.assignP rfl trivial rfl rfl rfl ?_
  refine G.nil ?_
  refine C.seq ?_
  refine C.region ?_
  refine G.moveP rfl trivial rfl rfl rfl ?_
  refine G.moveP rfl trivial rfl rfl rfl ?_
  refine G.call E22 rfl rfl trivial rfl rfl (load_spec W0 [_] _ bg bs bd bl { R := fun _ => 0, base := 0, forced := 0, end_ := 0, ends := [], bad := false } _ ⟨zs, _, [], hzr, OwnT.nil _, rfl⟩ d1 hw.ok hw.len) rfl ?_
  rintro e L2 ⟨sg, hsg, rfl, rfl⟩
  refine G.assignP rfl trivial rfl rfl rfl ?_
  refine G.assignI rfl trivial rfl rfl rfl ?_
  refine G.nil ?_
  refine C.less (fun _ h => Mem.drop4 h) ?_
  refine C.ret ?_
  -- end 
  exact ⟨rfl, _, Res.of (rs := [.tmp 2, .tmp 3]) rfl rfl, bg, bs, sg, sp, d1, _, rfl, hsg, hsp, hw, hlv, rfl⟩
theorem walmake_short (d : Dv) (hn : d.l.length < 1410) :
    FnS Try.prog W0 6 #[ptr bd] (S ++ (devSeg bd bl d :: L0)) (fun r L' => L' = S ++ (devSeg bd bl d :: L0) ∧ r = .returned (.tuple #[.pointer none, .int .i64 3])) := by
  refine FnS.of (args := [ptr bd]) Try.func6 rfl rfl ?_
  refine C.seq ?_
  refine C.region ?_
  refine G.assignP rfl trivial rfl rfl rfl ?_
  refine G.assignI rfl trivial rfl rfl rfl ?_
  refine G.nil ?_
  refine C.seq ?_
  refine C.seq ?_
  refine C.region ?_
  refine G.moveP rfl trivial rfl rfl rfl ?_
  refine G.call E19 rfl rfl trivial rfl rfl (len_spec W0 S L0 bd bl d) rfl ?_
  rintro e L2 ⟨rfl, rfl⟩
  refine G.bin rfl trivial rfl rfl rfl rfl rfl ?_
  refine G.nil ?_
  refine C.yes rfl (by omega) ?_
  refine C.seq ?_
  refine C.region ?_
  refine G.assignP rfl trivial rfl rfl rfl ?_
  refine G.assignI rfl trivial rfl rfl rfl ?_
  refine G.nil ?_
  refine C.ret ?_
  -- end 
  exact ⟨rfl, _, Res.of (rs := [.tmp 2, .tmp 3]) rfl rfl, rfl, rfl⟩
theorem walopen_none : FnS Try.prog W0 17 #[ptr bd] (S ++ (devSeg bd bl (newDv 1410) :: L0)) (fun r L' => L' = S ++ (devSeg bd bl (newDv 1410) :: L0) ∧ r = .returned (.tuple #[.pointer none, .slice none 0 0, .int .i64 8])) := by
  have hok : (newDv 1410).ok := newDv_ok (by decide)
  have hln : (newDv 1410).l.length = 1410 := by show (List.replicate 1410 zeroSec).length = 1410; exact List.length_replicate
  have h0 : (opTo 0 (fun k => nowAt (newDv 1410) (0 + k)) 2).turn = 0 := by
    have hz : turnI zero64 = 0 := turnI_zero
    have h1 : nowAt (newDv 1410) (0 + 0) = zero64 := rfl
    have h2 : nowAt (newDv 1410) (0 + 1) = zero64 := rfl
    show (opStep (opStep { at_ := 0, slot := 0, turn := 0, text := [] } 0 (nowAt (newDv 1410) (0 + 0))) 1 (nowAt (newDv 1410) (0 + 1))).turn = 0
    rw [h1, h2]
    generalize zero64 = z at hz
    have e1 : ∀ (p : Sp) (k : Nat), p.turn = 0 → (opStep p k z).turn = 0 := fun p k hp => by
      unfold opStep
      split
      · exact hz
      · exact hp
    exact e1 _ _ (e1 _ _ rfl)
  generalize newDv 1410 = d at *
  refine FnS.of (args := [ptr bd]) Try.func17 rfl rfl ?_
  refine C.seq ?_
  refine C.region ?_
  refine G.assignP rfl trivial rfl rfl rfl ?_
  refine G.assignS rfl trivial rfl rfl rfl ?_
  refine G.assignI rfl trivial rfl rfl rfl ?_
  refine G.nil ?_
  refine C.seq ?_
  refine C.seq ?_
  refine C.region ?_
  refine G.moveP rfl trivial rfl rfl rfl ?_
  refine G.call E19 rfl rfl trivial rfl rfl (len_spec W0 S L0 bd bl d) rfl ?_
  rintro e L2 ⟨rfl, rfl⟩
  refine G.bin rfl trivial rfl rfl rfl rfl rfl ?_
  refine G.nil ?_
  refine C.no rfl (by omega) ?_
  refine C.skip ?_
  refine C.seq ?_
  refine C.region ?_
  refine G.moveP rfl trivial rfl rfl rfl ?_
  refine G.call E28 rfl rfl trivial rfl rfl ((open_spec W0 S L0 bd bl d hok 0 (by omega)).mono (R' := fun e L' => L' = S ++ (devSeg bd bl d :: L0) ∧ e = .returned (.tuple #[.pointer none, .int .i64 8])) (fun e L' h => h.elim (fun h => h.2) (fun h => absurd h0 h.1))) rfl ?_
  rintro e L2 ⟨rfl, rfl⟩
  refine G.moveU rfl trivial rfl rfl rfl ?_
  refine G.extractL rfl trivial rfl rfl rfl rfl ?_
  refine G.extractL rfl trivial rfl rfl rfl rfl ?_
  refine G.assignP rfl trivial rfl rfl rfl ?_
  refine G.assignI rfl trivial rfl rfl rfl ?_
  refine G.nil ?_
  refine C.seq ?_
  refine C.seq ?_
  refine C.region ?_
  refine G.moveI rfl trivial rfl rfl rfl ?_
  refine G.bin rfl trivial rfl rfl rfl rfl rfl ?_
  refine G.nil ?_
  refine C.yes rfl (by simp) ?_
  refine C.seq ?_
  refine C.region ?_
  refine G.moveI rfl trivial rfl rfl rfl ?_
  refine G.assignP rfl trivial rfl rfl rfl ?_
  refine G.assignS rfl trivial rfl rfl rfl ?_
  refine G.assignI rfl trivial rfl rfl rfl ?_
  refine G.nil ?_
  refine C.ret ?_
  -- end 
  exact ⟨rfl, _, Res.of (rs := [.tmp 2, .tmp 3, .tmp 4]) rfl rfl, rfl, rfl⟩
end
end Go.Proofs.Ytjfjmhmfhkdcbab
