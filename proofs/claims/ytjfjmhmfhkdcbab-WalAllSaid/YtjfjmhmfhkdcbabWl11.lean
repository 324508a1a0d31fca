/-
  The laws of the log: what all of them begin with; no log.
-/
import Derived.Test.YtjfjmhmfhkdcbabWl10
namespace Go.Proofs.Ytjfjmhmfhkdcbab
open Go Go.SL Go.RowKit

theorem ls_one {ls : LsB} {b : List UInt8} (h : ls.map (·.2.2) = [b]) : ∃ a c, ls = [(a, c, b)] := by
  match ls, h with
  | [(a, c, x)], h => simp at h; subst h; exact ⟨a, c, rfl⟩
  | [], h => simp at h
  | _ :: _ :: _, h => simp at h
theorem ls_two {ls : LsB} {b b2 : List UInt8} (h : ls.map (·.2.2) = [b, b2]) : ∃ a c a2 c2, ls = [(a, c, b), (a2, c2, b2)] := by
  match ls, h with
  | [(a, c, x), (a2, c2, y)], h => simp at h; obtain ⟨rfl, rfl⟩ := h; exact ⟨a, c, a2, c2, rfl⟩
  | [], h => simp at h
  | [_], h => simp at h
  | _ :: _ :: _ :: _, h => simp at h
theorem row_cell {W0 : World} {L : List Seg} {p q : Nat} {ls : LsB} (h : Rd W0 L (some ⟨p, q, none⟩) (ls.map hdrB)) {i : Nat} {x : Option Addr × Nat × List UInt8} (hi : ls[i]? = some x) {k : Int} (hk : k = (i : Int)) : ∀ w, Mem W0 w L → w.cell? ⟨p, q + k.toNat * 1, none⟩ = some (.slice x.1 x.2.2.length x.2.1) := fun w hm => by
  have hlt : i < ls.length := by
    rcases Nat.lt_or_ge i ls.length with h | h
    · exact h
    · rw [List.getElem?_eq_none h] at hi; cases hi
  have h1 := Rd.cell_at (j := i) h (by simpa using hlt) w hm
  rw [List.getElem?_map, hi] at h1
  rw [hk, show q + ((i : Nat) : Int).toNat * 1 = q + i by omega, h1]
  rfl
theorem newW : (newDv 1410).ok ∧ (newDv 1410).live ∧ (newDv 1410).l.length = 1410 := ⟨newDv_ok (by decide), ⟨rfl, rfl⟩, by show (List.replicate 1410 zeroSec).length = 1410; exact List.length_replicate⟩
theorem size_ab : size [[97, 98]] = 6 := by rw [size_cons, size_nil]; rfl
theorem size_abc : size [[97, 98], [99]] = 11 := by rw [size_cons, size_cons, size_nil]; rfl
theorem size_c : size [[99]] = 5 := by rw [size_cons, size_nil]; rfl
theorem beganW_spec (W0 : World) (L : List Seg) : FnS Try.prog W0 4 #[] L (fun e L' => L' = L ∧ e = .returned (.bool true)) := by
  obtain ⟨hok0, hlv0, hln0⟩ := newW
  refine FnS.of (args := []) Try.func4 rfl rfl ?_
  refine C.seq ?_
  refine C.region ?_
  refine G.assignB rfl trivial rfl rfl rfl ?_
  refine G.nil ?_
  refine C.seq ?_
  refine C.region ?_
  refine G.call E5 rfl rfl trivial rfl rfl (new_spec W0 _ 1410) rfl ?_
  rintro e L2 ⟨bd, bl, rfl, rfl⟩
  rw [show clampN 1410 = 1410 from rfl]
  generalize newDv 1410 = d0 at *
  refine G.assignP rfl trivial rfl rfl rfl ?_
  refine G.nil ?_
  refine C.seq ?_
  refine C.region ?_
  refine G.moveP rfl trivial rfl rfl rfl ?_
  refine G.call E6 rfl rfl trivial rfl rfl (wa_make W0 [] _ bd bl d0 hok0 hlv0 hln0) rfl ?_
  rintro e L2 ⟨bg, bs, sg, sp, d1, rfl, hw1, rfl⟩
  refine G.moveU rfl trivial rfl rfl rfl ?_
  refine G.extractL rfl trivial rfl rfl rfl rfl ?_
  refine G.extractL rfl trivial rfl rfl rfl rfl ?_
  refine G.assignP rfl trivial rfl rfl rfl ?_
  refine G.assignI rfl trivial rfl rfl rfl ?_
  refine G.nil ?_
  refine C.seq ?_
  refine C.seq ?_
  refine C.region ?_
  refine G.moveI rfl trivial rfl rfl rfl ?_
  refine G.bin rfl trivial rfl rfl rfl rfl rfl ?_
  refine G.moveB rfl trivial rfl rfl rfl ?_
  refine G.no (t := 27) rfl (by simp) ?_
  refine G.moveP rfl ⟨_, rfl, rfl, rfl⟩ rfl rfl rfl ?_
  refine G.ptrEq rfl ⟨_, rfl, rfl, rfl⟩ rfl rfl Try.underlying26 rfl rfl ?_
  first | refine G.pickT rfl trivial rfl rfl rfl rfl ?_ | refine G.pickF rfl trivial rfl rfl rfl rfl ?_
  refine G.fix (d := 30) (v := .bool false) rfl ?_
  refine G.nil ?_
  refine C.condF rfl ?_
  refine C.skip ?_
  refine C.seq ?_
  refine C.region ?_
  refine G.moveP rfl trivial rfl rfl rfl ?_
  refine G.buildSliceL (cs := [.int .u8 97, .int .u8 98]) (zs := [(.int .u8 0), (.int .u8 0)]) rfl trivial rfl rfl Try.underlying34 I5 rfl (by kernel_rfl) rfl rfl ?_
  intro b33
  refine G.convSame (by first | exact .here | exact .next .here | exact .next (.next .here) | exact .next (.next (.next .here)) | exact .next (.next (.next (.next .here))) | exact .next (.next (.next (.next (.next .here)))) | exact .next (.next (.next (.next (.next (.next .here))))) | exact .next (.next (.next (.next (.next (.next (.next .here)))))) | exact .in1 | exact .next .in1 | exact .next (.next .in1) | exact .next (.next (.next .in1)) | exact .next (.next (.next (.next .in1))) | exact .in2 | exact .next .in2 | exact .next (.next .in2) | exact .next (.next (.next .in2)) | exact .next (.next (.next (.next .in2))) | exact .app .here | exact .app (.next .here) | exact .app (.next (.next .here)) | exact .app (.next (.next (.next .here))) | exact .app (.next (.next (.next (.next .here)))) | exact .app (.next (.next (.next (.next (.next .here))))) | exact .app (.next (.next (.next (.next (.next (.next .here)))))) | exact .app (.next (.next (.next (.next (.next (.next (.next .here))))))) | exact .app .in1 | exact .app .in2 | exact .app (.next .in1) | exact .next (.app .in1) | exact .next (.next (.app .in1)) | exact .next (.app .here) | exact .next (.next (.app .here)) | exact .next (.next (.next (.app .here))) | exact .next (.next (.next (.next (.app .here))))) rfl rfl trivial rfl rfl Try.underlying34 Try.underlying5 rfl ?_
  refine G.less (fun _ h => h.perm2) ?_
  refine G.call E11 rfl rfl trivial rfl rfl (wa_append W0 _ bg bs bd 0 1 [] [] d1 sg sp hw1 (by decide) _ 2 2 [97, 98] rfl (by decide) (by decide) (fun _ => Rd.row0 (cs := bytesV [97, 98]) (.app .here))) rfl ?_
  rintro e L2 ⟨sg2, hw2, rfl, rfl⟩
  change WA bg bs bd 0 [] [[97, 98]] 1 d1 sg2 sp at hw2
  refine G.less (fun _ h => h.skip1) ?_
  refine G.moveU rfl trivial rfl rfl rfl ?_
  refine G.extractL rfl trivial rfl rfl rfl rfl ?_
  refine G.fix (d := 36) (v := .int .i64 6) rfl ?_
  refine G.extractL rfl trivial rfl rfl rfl rfl ?_
  refine G.assignI rfl trivial rfl rfl rfl ?_
  refine G.assignI rfl trivial rfl rfl rfl ?_
  refine G.nil ?_
  refine C.seq ?_
  refine C.region ?_
  refine G.moveP rfl trivial rfl rfl rfl ?_
  refine G.buildSliceL (cs := [.int .u8 99]) (zs := [(.int .u8 0)]) rfl trivial rfl rfl Try.underlying34 I5 rfl (by kernel_rfl) rfl rfl ?_
  intro b40
  refine G.convSame (by first | exact .here | exact .next .here | exact .next (.next .here) | exact .next (.next (.next .here)) | exact .next (.next (.next (.next .here))) | exact .next (.next (.next (.next (.next .here)))) | exact .next (.next (.next (.next (.next (.next .here))))) | exact .next (.next (.next (.next (.next (.next (.next .here)))))) | exact .in1 | exact .next .in1 | exact .next (.next .in1) | exact .next (.next (.next .in1)) | exact .next (.next (.next (.next .in1))) | exact .in2 | exact .next .in2 | exact .next (.next .in2) | exact .next (.next (.next .in2)) | exact .next (.next (.next (.next .in2))) | exact .app .here | exact .app (.next .here) | exact .app (.next (.next .here)) | exact .app (.next (.next (.next .here))) | exact .app (.next (.next (.next (.next .here)))) | exact .app (.next (.next (.next (.next (.next .here))))) | exact .app (.next (.next (.next (.next (.next (.next .here)))))) | exact .app (.next (.next (.next (.next (.next (.next (.next .here))))))) | exact .app .in1 | exact .app .in2 | exact .app (.next .in1) | exact .next (.app .in1) | exact .next (.next (.app .in1)) | exact .next (.app .here) | exact .next (.next (.app .here)) | exact .next (.next (.next (.app .here))) | exact .next (.next (.next (.next (.app .here))))) rfl rfl trivial rfl rfl Try.underlying34 Try.underlying5 rfl ?_
  refine G.less (fun _ h => h.perm2) ?_
  refine G.call E11 rfl rfl trivial rfl rfl (wa_append W0 _ bg bs bd 0 1 [] [[97, 98]] d1 sg2 sp hw2 (by decide) _ 1 1 [99] rfl (by decide) (by rw [size_ab, size_nil]; decide) (fun _ => Rd.row0 (cs := bytesV [99]) (.app .here))) rfl ?_
  rintro e L2 ⟨sg3, hw3, rfl, rfl⟩
  change WA bg bs bd 0 [] [[97, 98], [99]] 1 d1 sg3 sp at hw3
  refine G.less (fun _ h => h.skip1) ?_
  refine G.moveU rfl trivial rfl rfl rfl ?_
  refine G.extractL rfl trivial rfl rfl rfl rfl ?_
  refine G.fix (d := 43) (v := .int .i64 11) (by show Value.int .i64 ((0 + size [] + size [[97, 98]] + (1 + 4) : Nat) : Int) = _; rw [size_ab, size_nil]; rfl) ?_
  refine G.extractL rfl trivial rfl rfl rfl rfl ?_
  refine G.assignI rfl trivial rfl rfl rfl ?_
  refine G.assignI rfl trivial rfl rfl rfl ?_
  refine G.nil ?_
  refine C.seq ?_
  refine C.region ?_
  refine G.moveP rfl trivial rfl rfl rfl ?_
  refine G.moveI rfl trivial rfl rfl rfl ?_
  refine G.call E12 rfl rfl trivial rfl rfl (wa_force W0 _ bg bs bd bl 0 1 [] [[97, 98], [99]] d1 sg3 sp hw3 (by decide) (by decide) 6) rfl ?_
  rintro e L2 ⟨sg4, sp4, d4, n, rfl, hn, hfar, hmore, hw4, rfl⟩
  have hn1 : n = 1 := by
    match n, hn, hfar, hmore with
    | 0, _, _, h =>
      have h1 := h (by decide)
      change 6 < 0 + size [] + size [[97, 98]] at h1
      rw [size_ab, size_nil] at h1
      omega
    | 1, _, _, _ => rfl
    | 2, _, h, _ =>
      change 0 + size [] + size [[97, 98], [99]] ≤ max 6 (0 + size []) at h
      rw [size_abc, size_nil] at h
      omega
    | n + 3, h, _, _ => simp at h
  subst hn1
  change WA bg bs bd 0 [[97, 98]] [[99]] 2 d4 sg4 sp4 at hw4
  obtain ⟨hok4, hln4, hlv4⟩ := hw4.dev
  have hwd4 := hw4.wd []
  refine G.assignI rfl trivial rfl rfl rfl ?_
  refine G.nil ?_
  refine C.seq ?_
  refine C.region ?_
  refine G.moveP rfl trivial rfl rfl rfl ?_
  refine G.call E18 rfl rfl trivial rfl rfl (crash_spec W0 [_, _] _ bd bl d4 hok4 (by omega) none 0 [] (Nat.le_refl _) (fun _ => Rd.nil)) rfl ?_
  rintro e L2 ⟨bc, bcl, rfl, rfl⟩
  have hlc := crash_live d4 []
  generalize d4.crash [] = dc at *
  refine G.call E17 rfl rfl trivial rfl rfl (wa_open W0 [] _ bc bcl 0 2 [[97, 98]] dc hwd4 hlc (by decide) (by decide)) rfl ?_
  rintro e L2 ⟨bg5, bs5, sg5, sp5, v5, ls5, s50, s51, rfl, hw5, hro5, hls5, rfl⟩
  obtain ⟨a5, c5, rfl⟩ := ls_one hls5
  obtain ⟨p5, q5, rfl, hr5⟩ := hro5.form
  obtain ⟨x5, y5, rfl, _⟩ := (hr5 W0 []).some_ (by simp)
  refine G.moveU rfl trivial rfl rfl rfl ?_
  refine G.extractL rfl trivial rfl rfl rfl rfl ?_
  refine G.extractL rfl trivial rfl rfl rfl rfl ?_
  refine G.extractL rfl trivial rfl rfl rfl rfl ?_
  refine G.assignP rfl trivial rfl rfl rfl ?_
  refine G.assignS rfl trivial rfl rfl rfl ?_
  refine G.assignI rfl trivial rfl rfl rfl ?_
  refine G.nil ?_
  refine C.seq ?_
  refine C.region ?_
  refine G.moveP rfl trivial rfl rfl rfl ?_
  refine G.moveI rfl trivial rfl rfl rfl ?_
  refine G.less (fun _ h => Mem.rot [_, _, _, _, _] [_, _, _] h) ?_
  refine G.call E12 rfl rfl trivial rfl rfl (wa_forceAll W0 _ bg bs bd bl 0 2 [[97, 98]] [[99]] d4 sg4 sp4 hw4 (by decide) (by decide) 11 (by rw [size_ab, size_c]; decide)) rfl ?_
  rintro e L2 ⟨sg6, sp6, d6, rfl, hw6, rfl⟩
  change WA bg bs bd 0 [[97, 98], [99]] [] 3 d6 sg6 sp6 at hw6
  obtain ⟨hok6, hln6, hlv6⟩ := hw6.dev
  have hwd6 := hw6.wd []
  refine G.assignI rfl trivial rfl rfl rfl ?_
  refine G.nil ?_
  refine C.seq ?_
  refine C.region ?_
  refine G.moveP rfl trivial rfl rfl rfl ?_
  refine G.call E18 rfl rfl trivial rfl rfl (crash_spec W0 [_, _] _ bd bl d6 hok6 (by omega) none 0 [] (Nat.le_refl _) (fun _ => Rd.nil)) rfl ?_
  rintro e L2 ⟨be_, bel, rfl, rfl⟩
  have hle := crash_live d6 []
  generalize d6.crash [] = de at *
  refine G.call E17 rfl rfl trivial rfl rfl (wa_open W0 [] _ be_ bel 0 3 [[97, 98], [99]] de hwd6 hle (by decide) (by decide)) rfl ?_
  rintro e L2 ⟨bg7, bs7, sg7, sp7, v7, ls7, s70, s71, rfl, hw7, hro7, hls7, rfl⟩
  obtain ⟨a7, c7, a8, c8, rfl⟩ := ls_two hls7
  obtain ⟨p7, q7, rfl, hr7⟩ := hro7.form
  obtain ⟨x7, y7, rfl, _⟩ := (hr7 W0 []).some_ (by simp)
  refine G.moveU rfl trivial rfl rfl rfl ?_
  refine G.extractL rfl trivial rfl rfl rfl rfl ?_
  refine G.extractL rfl trivial rfl rfl rfl rfl ?_
  refine G.extractL rfl trivial rfl rfl rfl rfl ?_
  refine G.assignP rfl trivial rfl rfl rfl ?_
  refine G.assignS rfl trivial rfl rfl rfl ?_
  refine G.assignI rfl trivial rfl rfl rfl ?_
  refine G.nil ?_
  refine C.seq ?_
  refine C.region ?_
  refine G.moveP rfl trivial rfl rfl rfl ?_
  refine G.less (fun _ h => Mem.rot [_, _, _, _, _] [_, _, _] h) ?_
  refine G.call E14 rfl rfl trivial rfl rfl (wa_cut W0 _ bg bs bd bl 0 3 [[97, 98], [99]] [] d6 sg6 sp6 hw6 (by decide) (by decide)) rfl ?_
  rintro e L2 ⟨sg9, sp9, d9, rfl, hw9, rfl⟩
  rw [size_abc, size_nil] at hw9
  refine G.assignI rfl trivial rfl rfl rfl ?_
  refine G.nil ?_
  refine C.seq ?_
  refine C.region ?_
  refine G.call E5 rfl rfl trivial rfl rfl (new_spec W0 _ 1409) rfl ?_
  rintro e L2 ⟨bf, bfl, rfl, rfl⟩
  rw [show clampN 1409 = 1409 from rfl]
  have hlf : (newDv 1409).l.length < 1410 := by show (List.replicate 1409 zeroSec).length < 1410; rw [List.length_replicate]; decide
  generalize newDv 1409 = df at *
  refine G.call E6 rfl rfl trivial rfl rfl (walmake_short W0 [] _ bf bfl df hlf) rfl ?_
  rintro e L2 ⟨rfl, rfl⟩
  refine G.moveU rfl trivial rfl rfl rfl ?_
  refine G.extractL rfl trivial rfl rfl rfl rfl ?_
  refine G.extractL rfl trivial rfl rfl rfl rfl ?_
  refine G.assignP rfl trivial rfl rfl rfl ?_
  refine G.assignI rfl trivial rfl rfl rfl ?_
  refine G.nil ?_
  refine C.seq ?_
  refine C.region ?_
  refine G.moveI rfl trivial rfl rfl rfl ?_
  refine G.bin rfl trivial rfl rfl rfl rfl rfl ?_
  refine G.moveB rfl trivial rfl rfl rfl ?_
  refine G.yes (t := 74) rfl rfl ?_
  refine G.moveI rfl ⟨_, rfl, rfl, rfl⟩ rfl rfl rfl ?_
  refine G.bin rfl ⟨_, rfl, rfl, rfl⟩ rfl rfl rfl rfl rfl ?_
  first | refine G.pickT rfl trivial rfl rfl rfl rfl ?_ | refine G.pickF rfl trivial rfl rfl rfl rfl ?_
  refine G.moveB rfl trivial rfl rfl rfl ?_
  refine G.yes (t := 78) rfl rfl ?_
  refine G.moveI rfl ⟨_, rfl, rfl, rfl⟩ rfl rfl rfl ?_
  refine G.bin rfl ⟨_, rfl, rfl, rfl⟩ rfl rfl rfl rfl rfl ?_
  first | refine G.pickT rfl trivial rfl rfl rfl rfl ?_ | refine G.pickF rfl trivial rfl rfl rfl rfl ?_
  refine G.moveB rfl trivial rfl rfl rfl ?_
  refine G.yes (t := 82) rfl rfl ?_
  refine G.moveI rfl ⟨_, rfl, rfl, rfl⟩ rfl rfl rfl ?_
  refine G.bin rfl ⟨_, rfl, rfl, rfl⟩ rfl rfl rfl rfl rfl ?_
  first | refine G.pickT rfl trivial rfl rfl rfl rfl ?_ | refine G.pickF rfl trivial rfl rfl rfl rfl ?_
  refine G.moveB rfl trivial rfl rfl rfl ?_
  refine G.yes (t := 86) rfl rfl ?_
  refine G.moveI rfl ⟨_, rfl, rfl, rfl⟩ rfl rfl rfl ?_
  refine G.bin rfl ⟨_, rfl, rfl, rfl⟩ rfl rfl rfl rfl rfl ?_
  first | refine G.pickT rfl trivial rfl rfl rfl rfl ?_ | refine G.pickF rfl trivial rfl rfl rfl rfl ?_
  refine G.moveB rfl trivial rfl rfl rfl ?_
  refine G.yes (t := 90) rfl rfl ?_
  refine G.moveI rfl ⟨_, rfl, rfl, rfl⟩ rfl rfl rfl ?_
  refine G.bin rfl ⟨_, rfl, rfl, rfl⟩ rfl rfl rfl rfl rfl ?_
  first | refine G.pickT rfl trivial rfl rfl rfl rfl ?_ | refine G.pickF rfl trivial rfl rfl rfl rfl ?_
  refine G.moveB rfl trivial rfl rfl rfl ?_
  refine G.yes (t := 94) rfl rfl ?_
  refine G.moveP rfl ⟨_, rfl, rfl, rfl⟩ rfl rfl rfl ?_
  refine G.call E15 rfl rfl ⟨_, rfl, rfl, rfl⟩ rfl rfl (wa_end W0 [_, _, _, _, _, _, _, _, _, _, _] _ bg5 bs5 bc 0 2 [[97, 98]] [] dc sg5 sp5 hw5) rfl ?_
  rintro e L2 ⟨rfl, rfl⟩
  rw [size_ab, size_nil]
  refine G.bin rfl ⟨_, rfl, rfl, rfl⟩ rfl rfl rfl rfl rfl ?_
  first | refine G.pickT rfl trivial rfl rfl rfl rfl ?_ | refine G.pickF rfl trivial rfl rfl rfl rfl ?_
  refine G.moveB rfl trivial rfl rfl rfl ?_
  refine G.yes (t := 99) rfl (by decide) ?_
  refine G.moveS rfl ⟨_, rfl, rfl, rfl⟩ rfl rfl rfl ?_
  refine G.lenSlice rfl ⟨_, rfl, rfl, rfl⟩ rfl rfl Try.underlying51 rfl ?_
  refine G.bin rfl ⟨_, rfl, rfl, rfl⟩ rfl rfl rfl rfl rfl ?_
  first | refine G.pickT rfl trivial rfl rfl rfl rfl ?_ | refine G.pickF rfl trivial rfl rfl rfl rfl ?_
  refine G.moveB rfl trivial rfl rfl rfl ?_
  refine G.yes (t := 104) rfl (by simp) ?_
  refine G.moveS rfl ⟨_, rfl, rfl, rfl⟩ rfl rfl rfl ?_
  refine G.indexAddr rfl ⟨_, rfl, rfl, rfl⟩ rfl rfl Try.underlying51 I34 rfl rfl (by simp) ?_
  refine G.load rfl ⟨_, rfl, rfl, rfl⟩ rfl rfl Try.underlying34 rfl rfl (row_cell (Rd.under hr5 [_, _, _, _, _, _, _, _, _]) (i := 0) rfl rfl) ?_
  refine G.bytesStr [97, 98] rfl ⟨_, rfl, rfl, rfl⟩ rfl rfl Try.underlying34 Try.underlying5 Try.underlying9 rfl rfl (Rd.under (hro5.2 _ (List.mem_cons_self ..)) [_, _, _, _, _, _, _, _, _, _]) ?_
  refine G.strEq rfl ⟨_, rfl, rfl, rfl⟩ rfl rfl  rfl rfl ?_
  first | refine G.pickT rfl trivial rfl rfl rfl rfl ?_ | refine G.pickF rfl trivial rfl rfl rfl rfl ?_
  refine G.moveB rfl trivial rfl rfl rfl ?_
  refine G.yes (t := 111) rfl rfl ?_
  refine G.moveI rfl ⟨_, rfl, rfl, rfl⟩ rfl rfl rfl ?_
  refine G.bin rfl ⟨_, rfl, rfl, rfl⟩ rfl rfl rfl rfl rfl ?_
  first | refine G.pickT rfl trivial rfl rfl rfl rfl ?_ | refine G.pickF rfl trivial rfl rfl rfl rfl ?_
  refine G.moveB rfl trivial rfl rfl rfl ?_
  refine G.yes (t := 115) rfl rfl ?_
  refine G.moveI rfl ⟨_, rfl, rfl, rfl⟩ rfl rfl rfl ?_
  refine G.bin rfl ⟨_, rfl, rfl, rfl⟩ rfl rfl rfl rfl rfl ?_
  first | refine G.pickT rfl trivial rfl rfl rfl rfl ?_ | refine G.pickF rfl trivial rfl rfl rfl rfl ?_
  refine G.moveB rfl trivial rfl rfl rfl ?_
  refine G.yes (t := 119) rfl rfl ?_
  refine G.moveS rfl ⟨_, rfl, rfl, rfl⟩ rfl rfl rfl ?_
  refine G.lenSlice rfl ⟨_, rfl, rfl, rfl⟩ rfl rfl Try.underlying51 rfl ?_
  refine G.bin rfl ⟨_, rfl, rfl, rfl⟩ rfl rfl rfl rfl rfl ?_
  first | refine G.pickT rfl trivial rfl rfl rfl rfl ?_ | refine G.pickF rfl trivial rfl rfl rfl rfl ?_
  refine G.moveB rfl trivial rfl rfl rfl ?_
  refine G.yes (t := 124) rfl (by simp) ?_
  refine G.moveS rfl ⟨_, rfl, rfl, rfl⟩ rfl rfl rfl ?_
  refine G.indexAddr rfl ⟨_, rfl, rfl, rfl⟩ rfl rfl Try.underlying51 I34 rfl rfl (by simp) ?_
  refine G.load rfl ⟨_, rfl, rfl, rfl⟩ rfl rfl Try.underlying34 rfl rfl (row_cell (Rd.under hr7 [_, _, _, _]) (i := 1) rfl rfl) ?_
  refine G.bytesStr [99] rfl ⟨_, rfl, rfl, rfl⟩ rfl rfl Try.underlying34 Try.underlying5 Try.underlying9 rfl rfl (Rd.under (hro7.2 (a8, c8, [99]) (by simp)) [_, _, _, _, _]) ?_
  refine G.strEq rfl ⟨_, rfl, rfl, rfl⟩ rfl rfl  rfl rfl ?_
  first | refine G.pickT rfl trivial rfl rfl rfl rfl ?_ | refine G.pickF rfl trivial rfl rfl rfl rfl ?_
  refine G.moveB rfl trivial rfl rfl rfl ?_
  refine G.yes (t := 131) rfl rfl ?_
  refine G.moveI rfl ⟨_, rfl, rfl, rfl⟩ rfl rfl rfl ?_
  refine G.bin rfl ⟨_, rfl, rfl, rfl⟩ rfl rfl rfl rfl rfl ?_
  first | refine G.pickT rfl trivial rfl rfl rfl rfl ?_ | refine G.pickF rfl trivial rfl rfl rfl rfl ?_
  refine G.moveB rfl trivial rfl rfl rfl ?_
  refine G.yes (t := 135) rfl rfl ?_
  refine G.moveP rfl ⟨_, rfl, rfl, rfl⟩ rfl rfl rfl ?_
  refine G.call E16 rfl rfl ⟨_, rfl, rfl, rfl⟩ rfl rfl (wa_base W0 [_] _ bg bs bd 11 5 [] [] d9 sg9 sp9 hw9) rfl ?_
  rintro e L2 ⟨rfl, rfl⟩
  refine G.bin rfl ⟨_, rfl, rfl, rfl⟩ rfl rfl rfl rfl rfl ?_
  first | refine G.pickT rfl trivial rfl rfl rfl rfl ?_ | refine G.pickF rfl trivial rfl rfl rfl rfl ?_
  refine G.moveB rfl trivial rfl rfl rfl ?_
  refine G.yes (t := 140) rfl rfl ?_
  refine G.moveP rfl ⟨_, rfl, rfl, rfl⟩ rfl rfl rfl ?_
  refine G.call E15 rfl rfl ⟨_, rfl, rfl, rfl⟩ rfl rfl (wa_end W0 [_] _ bg bs bd 11 5 [] [] d9 sg9 sp9 hw9) rfl ?_
  rintro e L2 ⟨rfl, rfl⟩
  refine G.bin rfl ⟨_, rfl, rfl, rfl⟩ rfl rfl rfl rfl rfl ?_
  first | refine G.pickT rfl trivial rfl rfl rfl rfl ?_ | refine G.pickF rfl trivial rfl rfl rfl rfl ?_
  refine G.moveB rfl trivial rfl rfl rfl ?_
  refine G.yes (t := 145) rfl rfl ?_
  refine G.moveP rfl ⟨_, rfl, rfl, rfl⟩ rfl rfl rfl ?_
  refine G.call E13 rfl rfl ⟨_, rfl, rfl, rfl⟩ rfl rfl (wa_forced W0 [_] _ bg bs bd 11 5 [] [] d9 sg9 sp9 hw9) rfl ?_
  rintro e L2 ⟨rfl, rfl⟩
  refine G.bin rfl ⟨_, rfl, rfl, rfl⟩ rfl rfl rfl rfl rfl ?_
  first | refine G.pickT rfl trivial rfl rfl rfl rfl ?_ | refine G.pickF rfl trivial rfl rfl rfl rfl ?_
  refine G.moveB rfl trivial rfl rfl rfl ?_
  refine G.yes (t := 150) rfl rfl ?_
  refine G.moveI rfl ⟨_, rfl, rfl, rfl⟩ rfl rfl rfl ?_
  refine G.bin rfl ⟨_, rfl, rfl, rfl⟩ rfl rfl rfl rfl rfl ?_
  first | refine G.pickT rfl trivial rfl rfl rfl rfl ?_ | refine G.pickF rfl trivial rfl rfl rfl rfl ?_
  refine G.assignB rfl trivial rfl rfl rfl ?_
  refine G.nil ?_
  refine C.less (fun _ h => Mem.dropN [_, _, _, _, _, _, _, _, _, _, _, _, _, _] h) ?_
  refine C.ret ?_
  -- end 
  exact ⟨rfl, _, Res.of (rs := [.tmp 0]) rfl rfl, rfl, rfl⟩
end Go.Proofs.Ytjfjmhmfhkdcbab
