/-
  The laws of two slots, walked: what the file begins with, nothing there, two texts.
-/
import Derived.Test.YtmfaoeeddafcfaaSu4
namespace Go.Proofs.Ytmfaoeeddafcfaa
open Go Go.SL Go.RowKit

theorem open_new (W0 : World) (S L0 : List Seg) (bd bl : Nat) : FnS Try.prog W0 9 #[ptr bd, .int .i64 ((1 : Nat) : Int)] (S ++ (devSeg bd bl (newDv 4) :: L0))
      (fun e L' => L' = S ++ (devSeg bd bl (newDv 4) :: L0) ∧ e = .returned (.tuple #[.pointer none, .int .i64 8])) := by
  refine (open_spec W0 S L0 bd bl (newDv 4) (newDv_ok (by decide)) 1 (by decide)).mono ?_
  rintro e L' h
  have h0 : (opTo 1 (fun k => nowAt (newDv 4) (1 + k)) 2).turn = 0 := by
    have hz : turnI zero64 = 0 := turnI_zero
    have h1 : nowAt (newDv 4) (1 + 0) = zero64 := rfl
    have h2 : nowAt (newDv 4) (1 + 1) = zero64 := rfl
    show (opStep (opStep { at_ := 1, slot := 0, turn := 0, text := [] } 0 (nowAt (newDv 4) (1 + 0))) 1 (nowAt (newDv 4) (1 + 1))).turn = 0
    rw [h1, h2]
    generalize zero64 = z at hz
    have e1 : ∀ (p : Sp) (k : Nat), p.turn = 0 → (opStep p k z).turn = 0 := fun p k hp => by
      unfold opStep
      split
      · exact hz
      · exact hp
    exact e1 _ _ (e1 _ _ rfl)
  rcases h with ⟨_, h1, h2⟩ | ⟨h1, _⟩
  · exact ⟨h1, h2⟩
  · exact absurd h0 h1
theorem new_live (n : Nat) : (newDv n).live := ⟨rfl, rfl⟩
theorem beganS_spec (W0 : World) (L : List Seg) : FnS Try.prog W0 10 #[] L (fun e L' => L' = L ∧ e = .returned (.bool true)) := by
  obtain ⟨d1, hd1⟩ : ∃ d, d = mkD (newDv 4) 1 [97, 98] := ⟨_, rfl⟩
  have hok1 : d1.ok := by rw [hd1]; exact mkD_ok (newDv_ok (by decide)) (new_live 4) 1 (by decide)
  have hlive1 : d1.live := by rw [hd1]; exact mkD_live (new_live 4) 1 _
  have hlen1 : d1.l.length = 4 := by rw [hd1, mkD_length]; rfl
  have hs1 : Slots d1 { at_ := 1, slot := 0, turn := 1, text := [97, 98] } 1 := by rw [hd1]; exact Slots.made (newDv 4) (newDv_ok (by decide)) (new_live 4) 1 (by decide) (by decide)
  refine FnS.of (args := []) Try.func10 rfl rfl ?_
  refine C.seq ?_
  refine C.region ?_
  refine G.assignB rfl trivial rfl rfl rfl ?_
  refine G.nil ?_
  refine C.seq ?_
  refine C.region ?_
  refine G.call E7 rfl rfl trivial rfl rfl (new_spec W0 _ 4) rfl ?_
  rintro e L2 ⟨bd, bl, rfl, rfl⟩
  rw [show clampN 4 = 4 from rfl]
  refine G.assignP rfl trivial rfl rfl rfl ?_
  refine G.nil ?_
  refine C.seq ?_
  refine C.region ?_
  refine G.moveP rfl trivial rfl rfl rfl ?_
  refine G.buildSliceL (cs := [.int .u8 97, .int .u8 98]) (zs := [(.int .u8 0), (.int .u8 0)]) rfl trivial rfl rfl Try.underlying28 I5 rfl (by kernel_rfl) rfl rfl ?_
  intro b14
  refine G.convSame (by first | exact .here | exact .next .here | exact .next (.next .here) | exact .next (.next (.next .here)) | exact .next (.next (.next (.next .here))) | exact .next (.next (.next (.next (.next .here)))) | exact .next (.next (.next (.next (.next (.next .here))))) | exact .next (.next (.next (.next (.next (.next (.next .here)))))) | exact .in1 | exact .next .in1 | exact .next (.next .in1) | exact .next (.next (.next .in1)) | exact .next (.next (.next (.next .in1))) | exact .in2 | exact .next .in2 | exact .next (.next .in2) | exact .next (.next (.next .in2)) | exact .next (.next (.next (.next .in2))) | exact .app .here | exact .app (.next .here) | exact .app (.next (.next .here)) | exact .app (.next (.next (.next .here))) | exact .app (.next (.next (.next (.next .here)))) | exact .app (.next (.next (.next (.next (.next .here))))) | exact .app (.next (.next (.next (.next (.next (.next .here)))))) | exact .app (.next (.next (.next (.next (.next (.next (.next .here))))))) | exact .app .in1 | exact .app .in2 | exact .app (.next .in1) | exact .next (.app .in1) | exact .next (.next (.app .in1)) | exact .next (.app .here) | exact .next (.next (.app .here)) | exact .next (.next (.next (.app .here))) | exact .next (.next (.next (.next (.app .here))))) rfl rfl trivial rfl rfl Try.underlying28 Try.underlying5 rfl ?_
  refine G.call E8 rfl rfl trivial rfl rfl (make_ok W0 [_] _ bd bl (newDv 4) (newDv_ok (by decide)) (new_live 4) 1 (by decide) _ 2 [97, 98] (by decide) (fun _ => Rd.row0 (cs := bytesV [97, 98]) (.app .here))) rfl ?_
  rintro e L2 ⟨bs, sg, hsg, rfl, rfl⟩
  rw [← hd1]
  refine G.moveU rfl trivial rfl rfl rfl ?_
  refine G.extractL rfl trivial rfl rfl rfl rfl ?_
  refine G.extractL rfl trivial rfl rfl rfl rfl ?_
  refine G.assignP rfl trivial rfl rfl rfl ?_
  refine G.assignI rfl trivial rfl rfl rfl ?_
  refine G.nil ?_
  refine C.seq ?_
  refine C.seq ?_
  refine C.region ?_
  refine G.moveI rfl trivial rfl rfl rfl ?_
  refine G.bin rfl trivial rfl rfl rfl rfl rfl ?_
  refine G.no (t := 20) rfl (by simp) ?_
  refine G.moveB rfl trivial rfl rfl rfl ?_
  refine G.moveP rfl ⟨_, rfl, rfl, rfl⟩ rfl rfl rfl ?_
  refine G.ptrEq rfl ⟨_, rfl, rfl, rfl⟩ rfl rfl Try.underlying22 rfl rfl ?_
  refine G.fix (d := 23) (v := .bool false) rfl ?_
  first | refine G.pickT rfl trivial rfl rfl rfl rfl ?_ | refine G.pickF rfl trivial rfl rfl rfl rfl ?_
  refine G.nil ?_
  refine C.condF rfl ?_
  refine C.skip ?_
  refine C.seq ?_
  refine C.region ?_
  refine G.moveP rfl trivial rfl rfl rfl ?_
  refine G.buildSliceL (cs := [.int .u8 99, .int .u8 100]) (zs := [(.int .u8 0), (.int .u8 0)]) rfl trivial rfl rfl Try.underlying28 I5 rfl (by kernel_rfl) rfl rfl ?_
  intro b26
  refine G.convSame (by first | exact .here | exact .next .here | exact .next (.next .here) | exact .next (.next (.next .here)) | exact .next (.next (.next (.next .here))) | exact .next (.next (.next (.next (.next .here)))) | exact .next (.next (.next (.next (.next (.next .here))))) | exact .next (.next (.next (.next (.next (.next (.next .here)))))) | exact .in1 | exact .next .in1 | exact .next (.next .in1) | exact .next (.next (.next .in1)) | exact .next (.next (.next (.next .in1))) | exact .in2 | exact .next .in2 | exact .next (.next .in2) | exact .next (.next (.next .in2)) | exact .next (.next (.next (.next .in2))) | exact .app .here | exact .app (.next .here) | exact .app (.next (.next .here)) | exact .app (.next (.next (.next .here))) | exact .app (.next (.next (.next (.next .here)))) | exact .app (.next (.next (.next (.next (.next .here))))) | exact .app (.next (.next (.next (.next (.next (.next .here)))))) | exact .app (.next (.next (.next (.next (.next (.next (.next .here))))))) | exact .app .in1 | exact .app .in2 | exact .app (.next .in1) | exact .next (.app .in1) | exact .next (.next (.app .in1)) | exact .next (.app .here) | exact .next (.next (.app .here)) | exact .next (.next (.next (.app .here))) | exact .next (.next (.next (.next (.app .here))))) rfl rfl trivial rfl rfl Try.underlying28 Try.underlying5 rfl ?_
  refine G.less (fun _ h => h.up3.up3) ?_
  refine G.call E11 rfl rfl trivial rfl rfl (save_live W0 _ bs bd bl d1 hok1 hlive1 _ sg hsg 1 hs1 (by decide) (by show 1 + 1 < _; omega) _ 2 2 [99, 100] rfl (by decide) (fun _ => Rd.row0 (cs := bytesV [99, 100]) (.app .here))) rfl ?_
  rintro e L2 ⟨sg1, rfl, hsg1, rfl⟩
  obtain ⟨d2, hd2⟩ : ∃ d, d = sav d1 { at_ := 1, slot := 0, turn := 1, text := [97, 98] } 1 [99, 100] := ⟨_, rfl⟩
  rw [← hd2]
  have hok2 : d2.ok := by rw [hd2]; exact sav_ok hok1 hlive1 _ _ (by decide)
  have hlen2 : d2.l.length = 4 := by rw [hd2, sav_length]; exact hlen1
  have hs2 : Slots d2 { at_ := 1, slot := 1, turn := 2, text := [99, 100] } 2 := by rw [hd2]; exact hs1.saved hok1 (by show 1 + 1 < _; omega) (by decide)
  have hcl2 : d2.clean := by rw [hd2]; exact flush_clean _
  refine G.assignI rfl trivial rfl rfl rfl ?_
  refine G.nil ?_
  refine C.seq ?_
  refine C.region ?_
  refine G.moveP rfl trivial rfl rfl rfl ?_
  refine G.call E15 rfl rfl trivial rfl rfl (crash_spec W0 [_] _ bd bl d2 hok2 (by omega) none 0 [] (Nat.le_refl _) (fun _ => Rd.nil)) rfl ?_
  rintro e L2 ⟨bc, bcl, rfl, rfl⟩
  have hs3 := hs2.crash hcl2 []
  have hok3 := crash_ok hok2 []
  have hlen3 : (d2.crash []).l.length = 4 := by rw [crash_len]; exact hlen2
  generalize d2.crash [] = d3 at *
  refine G.call E9 rfl rfl trivial rfl rfl (open_slots W0 [] _ bc bcl d3 hok3 { at_ := 1, slot := 1, turn := 2, text := [99, 100] } 2 hs3 (by decide) (by show 1 + 1 < _; omega) rfl) rfl ?_
  rintro e L2 ⟨bt, sgt, hsgt, rfl, rfl⟩
  refine G.moveU rfl trivial rfl rfl rfl ?_
  refine G.extractL rfl trivial rfl rfl rfl rfl ?_
  refine G.extractL rfl trivial rfl rfl rfl rfl ?_
  refine G.assignP rfl trivial rfl rfl rfl ?_
  refine G.assignI rfl trivial rfl rfl rfl ?_
  refine G.nil ?_
  refine C.seq ?_
  refine C.region ?_
  refine G.call E7 rfl rfl trivial rfl rfl (new_spec W0 _ 4) rfl ?_
  rintro e L2 ⟨be, bel, rfl, rfl⟩
  rw [show clampN 4 = 4 from rfl]
  refine G.call E9 rfl rfl trivial rfl rfl (open_new W0 [] _ be bel) rfl ?_
  rintro e L2 ⟨rfl, rfl⟩
  refine G.moveU rfl trivial rfl rfl rfl ?_
  refine G.extractL rfl trivial rfl rfl rfl rfl ?_
  refine G.extractL rfl trivial rfl rfl rfl rfl ?_
  refine G.assignP rfl trivial rfl rfl rfl ?_
  refine G.assignI rfl trivial rfl rfl rfl ?_
  refine G.nil ?_
  refine C.seq ?_
  refine C.region ?_
  refine G.moveP rfl trivial rfl rfl rfl ?_
  refine G.call E8 rfl rfl trivial rfl rfl (make_range W0 [_, _, _, _] _ bd bl d2 hok2 3 (by omega) none 0 0 (by decide)) rfl ?_
  rintro e L2 ⟨rfl, rfl⟩
  refine G.moveU rfl trivial rfl rfl rfl ?_
  refine G.extractL rfl trivial rfl rfl rfl rfl ?_
  refine G.extractL rfl trivial rfl rfl rfl rfl ?_
  refine G.assignP rfl trivial rfl rfl rfl ?_
  refine G.assignI rfl trivial rfl rfl rfl ?_
  refine G.nil ?_
  refine C.seq ?_
  refine C.region ?_
  refine G.moveI rfl trivial rfl rfl rfl ?_
  refine G.bin rfl trivial rfl rfl rfl rfl rfl ?_
  refine G.yes (t := 46) rfl rfl ?_
  refine G.moveB rfl trivial rfl rfl rfl ?_
  refine G.moveI rfl ⟨_, rfl, rfl, rfl⟩ rfl rfl rfl ?_
  refine G.bin rfl ⟨_, rfl, rfl, rfl⟩ rfl rfl rfl rfl rfl ?_
  refine G.yes (t := 49) rfl rfl ?_
  first | refine G.pickT rfl trivial rfl rfl rfl rfl ?_ | refine G.pickF rfl trivial rfl rfl rfl rfl ?_
  refine G.moveB rfl trivial rfl rfl rfl ?_
  refine G.moveP rfl ⟨_, rfl, rfl, rfl⟩ rfl rfl rfl ?_
  refine G.call E12 rfl rfl ⟨_, rfl, rfl, rfl⟩ rfl rfl (text_spec W0 [_] _ bt bc { at_ := 1, slot := 1, turn := 2, text := [99, 100] } sgt hsgt (by decide)) rfl ?_
  rintro e L2 ⟨v53, s53, hv53, rfl, rfl⟩
  obtain ⟨a53, c53, rfl, hr53⟩ := hv53.form
  refine G.bytesStr [99, 100] rfl ⟨_, rfl, rfl, rfl⟩ rfl rfl Try.underlying28 Try.underlying5 Try.underlying9 rfl rfl (hr53 _ _) ?_
  refine G.strEq rfl ⟨_, rfl, rfl, rfl⟩ rfl rfl  rfl rfl ?_
  refine G.yes (t := 55) rfl rfl ?_
  first | refine G.pickT rfl trivial rfl rfl rfl rfl ?_ | refine G.pickF rfl trivial rfl rfl rfl rfl ?_
  refine G.moveB rfl trivial rfl rfl rfl ?_
  refine G.moveP rfl ⟨_, rfl, rfl, rfl⟩ rfl rfl rfl ?_
  refine G.call E13 rfl rfl ⟨_, rfl, rfl, rfl⟩ rfl rfl (turn_spec W0 [_, _] _ bt bc { at_ := 1, slot := 1, turn := 2, text := [99, 100] } sgt hsgt) rfl ?_
  rintro e L2 ⟨rfl, rfl⟩
  refine G.bin rfl ⟨_, rfl, rfl, rfl⟩ rfl rfl rfl rfl rfl ?_
  refine G.yes (t := 60) rfl rfl ?_
  first | refine G.pickT rfl trivial rfl rfl rfl rfl ?_ | refine G.pickF rfl trivial rfl rfl rfl rfl ?_
  refine G.moveB rfl trivial rfl rfl rfl ?_
  refine G.moveI rfl ⟨_, rfl, rfl, rfl⟩ rfl rfl rfl ?_
  refine G.bin rfl ⟨_, rfl, rfl, rfl⟩ rfl rfl rfl rfl rfl ?_
  refine G.yes (t := 64) rfl rfl ?_
  first | refine G.pickT rfl trivial rfl rfl rfl rfl ?_ | refine G.pickF rfl trivial rfl rfl rfl rfl ?_
  refine G.moveB rfl trivial rfl rfl rfl ?_
  refine G.moveI rfl ⟨_, rfl, rfl, rfl⟩ rfl rfl rfl ?_
  refine G.bin rfl ⟨_, rfl, rfl, rfl⟩ rfl rfl rfl rfl rfl ?_
  refine G.yes (t := 68) rfl rfl ?_
  first | refine G.pickT rfl trivial rfl rfl rfl rfl ?_ | refine G.pickF rfl trivial rfl rfl rfl rfl ?_
  refine G.assignB rfl trivial rfl rfl rfl ?_
  refine G.nil ?_
  refine C.less (fun _ h => h.tail.tail.tail.tail.tail.tail.tail.tail) ?_
  refine C.ret ?_
  -- end 
  exact ⟨rfl, _, Res.of (rs := [.tmp 0]) rfl rfl, rfl, rfl⟩
theorem snone_walk (W0 : World) : FnS Try.prog W0 3 #[] [] (fun e _ => e = .returned (.bool true)) := by
  refine FnS.of (args := []) Try.func3 rfl rfl ?_
  refine C.seq ?_
  refine C.region ?_
  refine G.assignB rfl trivial rfl rfl rfl ?_
  refine G.nil ?_
  refine C.seq ?_
  refine C.region ?_
  refine G.assignP rfl trivial rfl rfl rfl ?_
  refine G.nil ?_
  refine C.seq ?_
  refine C.region ?_
  refine G.call E7 rfl rfl trivial rfl rfl (new_spec W0 _ 2) rfl ?_
  rintro e L2 ⟨bd, bl, rfl, rfl⟩
  rw [show clampN 2 = 2 from rfl]
  refine G.assignP rfl trivial rfl rfl rfl ?_
  refine G.nil ?_
  refine C.seq ?_
  refine C.region ?_
  refine G.moveP rfl trivial rfl rfl rfl ?_
  refine G.makeBytes (l := 41) (c := 41) rfl trivial rfl rfl Try.underlying28 I5 rfl rfl (by decide) ?_
  intro b10
  refine G.call E8 rfl rfl trivial rfl rfl (make_form W0 _ _ 0 _ 41 41 (by decide)) rfl ?_
  rintro e L2 ⟨rfl, rfl⟩
  refine G.moveU rfl trivial rfl rfl rfl ?_
  refine G.extractL rfl trivial rfl rfl rfl rfl ?_
  refine G.extractL rfl trivial rfl rfl rfl rfl ?_
  refine G.assignP rfl trivial rfl rfl rfl ?_
  refine G.assignI rfl trivial rfl rfl rfl ?_
  refine G.nil ?_
  refine C.seq ?_
  refine C.region ?_
  refine G.call E9 rfl rfl trivial rfl rfl (open_nil W0 _ 0) rfl ?_
  rintro e L2 ⟨rfl, rfl⟩
  refine G.moveU rfl trivial rfl rfl rfl ?_
  refine G.extractL rfl trivial rfl rfl rfl rfl ?_
  refine G.extractL rfl trivial rfl rfl rfl rfl ?_
  refine G.assignP rfl trivial rfl rfl rfl ?_
  refine G.assignI rfl trivial rfl rfl rfl ?_
  refine G.nil ?_
  refine C.seq ?_
  refine C.region ?_
  refine G.call E10 rfl rfl trivial rfl rfl (beganS_spec W0 _) rfl ?_
  rintro e L2 ⟨rfl, rfl⟩
  refine G.moveB rfl trivial rfl rfl rfl ?_
  refine G.moveP rfl ⟨_, rfl, rfl, rfl⟩ rfl rfl rfl ?_
  refine G.call E11 rfl rfl ⟨_, rfl, rfl, rfl⟩ rfl rfl (save_nil W0 _ none 0 0) rfl ?_
  rintro e L2 ⟨rfl, rfl⟩
  refine G.bin rfl ⟨_, rfl, rfl, rfl⟩ rfl rfl rfl rfl rfl ?_
  refine G.yes (t := 22) rfl rfl ?_
  first | refine G.pickT rfl trivial rfl rfl rfl rfl ?_ | refine G.pickF rfl trivial rfl rfl rfl rfl ?_
  refine G.moveB rfl trivial rfl rfl rfl ?_
  refine G.moveP rfl ⟨_, rfl, rfl, rfl⟩ rfl rfl rfl ?_
  refine G.call E12 rfl rfl ⟨_, rfl, rfl, rfl⟩ rfl rfl (text_nil W0 _) rfl ?_
  rintro e L2 ⟨rfl, rfl⟩
  refine G.lenSlice rfl ⟨_, rfl, rfl, rfl⟩ rfl rfl Try.underlying28 rfl ?_
  refine G.bin rfl ⟨_, rfl, rfl, rfl⟩ rfl rfl rfl rfl rfl ?_
  refine G.yes (t := 28) rfl rfl ?_
  first | refine G.pickT rfl trivial rfl rfl rfl rfl ?_ | refine G.pickF rfl trivial rfl rfl rfl rfl ?_
  refine G.moveB rfl trivial rfl rfl rfl ?_
  refine G.moveP rfl ⟨_, rfl, rfl, rfl⟩ rfl rfl rfl ?_
  refine G.call E13 rfl rfl ⟨_, rfl, rfl, rfl⟩ rfl rfl (turn_nil W0 _) rfl ?_
  rintro e L2 ⟨rfl, rfl⟩
  refine G.bin rfl ⟨_, rfl, rfl, rfl⟩ rfl rfl rfl rfl rfl ?_
  refine G.yes (t := 33) rfl rfl ?_
  first | refine G.pickT rfl trivial rfl rfl rfl rfl ?_ | refine G.pickF rfl trivial rfl rfl rfl rfl ?_
  refine G.moveB rfl trivial rfl rfl rfl ?_
  refine G.moveI rfl ⟨_, rfl, rfl, rfl⟩ rfl rfl rfl ?_
  refine G.bin rfl ⟨_, rfl, rfl, rfl⟩ rfl rfl rfl rfl rfl ?_
  refine G.yes (t := 37) rfl rfl ?_
  first | refine G.pickT rfl trivial rfl rfl rfl rfl ?_ | refine G.pickF rfl trivial rfl rfl rfl rfl ?_
  refine G.moveB rfl trivial rfl rfl rfl ?_
  refine G.moveI rfl ⟨_, rfl, rfl, rfl⟩ rfl rfl rfl ?_
  refine G.bin rfl ⟨_, rfl, rfl, rfl⟩ rfl rfl rfl rfl rfl ?_
  refine G.yes (t := 41) rfl (by decide) ?_
  first | refine G.pickT rfl trivial rfl rfl rfl rfl ?_ | refine G.pickF rfl trivial rfl rfl rfl rfl ?_
  refine G.assignB rfl trivial rfl rfl rfl ?_
  refine G.nil ?_
  refine C.ret ?_
  -- end 
  exact ⟨rfl, _, Res.of (rs := [.tmp 0]) rfl rfl, rfl⟩
theorem short_u8 (W0 : World) (L : List Seg) (a : Option Addr) (c : Nat) (xs : List UInt8) (k : Nat) {l : Nat} (hl : l = xs.length) (hc : xs.length ≤ c) :
   FnS Try.prog W0 17 #[.slice a l c, .int .i64 k] L (fun e L' => L' = L ∧ e = .returned (.slice a (xs.take k).length c)) := short_spec W0 L a c xs k hl hc
end Go.Proofs.Ytmfaoeeddafcfaa
