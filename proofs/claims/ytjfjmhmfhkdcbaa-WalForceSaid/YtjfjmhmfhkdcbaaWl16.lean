/-
  The laws of the log: what is forced lasts.
-/
import Derived.Test.YtjfjmhmfhkdcbaaWl15
namespace Go.Proofs.Ytjfjmhmfhkdcbaa
open Go Go.SL Go.RowKit

theorem any_cell {W0 : World} {L : List Seg} {p q : Nat} {vs : List Value} (h : Rd W0 L (some ⟨p, q, none⟩) vs) {i : Nat} {v : Value} (hi : vs[i]? = some v) {k : Int} (hk : k = (i : Int)) : ∀ w, Mem W0 w L → w.cell? ⟨p, q + k.toNat * 1, none⟩ = some v := fun w hm => by
  have hlt : i < vs.length := by
    rcases Nat.lt_or_ge i vs.length with h | h
    · exact h
    · rw [List.getElem?_eq_none h] at hi; cases hi
  have h1 := Rd.cell_at (j := i) h hlt w hm
  rw [hk, show q + ((i : Nat) : Int).toNat * 1 = q + i by omega, h1, hi]
theorem Mem.skip2 {W0 w : World} {a b c : Seg} {L : List Seg} (h : Mem W0 w (a :: b :: c :: L)) : Mem W0 w (a :: b :: L) := h.fewer (by
  simp only [List.flatten_cons]
  exact List.Sublist.append (List.Sublist.refl _) (List.Sublist.append (List.Sublist.refl _) (List.sublist_append_right _ _)))
def strV (b : List UInt8) : Value := .string (strB b)
theorem force_walk (W0 : World) (a0 a2 : Option Addr) (c0 c2 : Nat) (zs : List Int) (fz : Int) (ks : List Bool) (hz : zs.length ≤ 9223372036854775807) (hfz : 0 ≤ fz ∧ fz ≤ 9223372036854775807) (hk2 : ks.length ≤ c2)
    (r0 : ∀ L, Rd W0 L a0 (zs.map (Value.int .i64))) (r2 : ∀ L, Rd W0 L a2 (ks.map Value.bool)) :
    FnS Try.prog W0 7 #[.slice a0 zs.length c0, .int .i64 fz, .slice a2 ks.length c2] [] (fun e _ => e = .returned (.bool true)) := by
  obtain ⟨hok0, hlv0, hln0⟩ := newW
  refine FnS.of (args := [.slice a0 zs.length c0, .int .i64 fz, .slice a2 ks.length c2]) Try.func7 rfl rfl ?_
  refine C.seq ?_
  refine C.region ?_
  refine G.assignB rfl trivial rfl rfl rfl ?_
  refine G.nil ?_
  refine C.seq ?_
  refine C.region ?_
  refine G.call E9 rfl rfl trivial rfl rfl (beganW_spec W0 _) rfl ?_
  rintro e L2 ⟨rfl, rfl⟩
  refine G.assignB rfl trivial rfl rfl rfl ?_
  refine G.nil ?_
  refine C.seq ?_
  refine C.seq ?_
  refine C.region ?_
  refine G.moveB rfl trivial rfl rfl rfl ?_
  first | refine G.notD rfl trivial rfl rfl rfl ?_ | refine G.not rfl trivial rfl rfl rfl ?_
  refine G.fix (d := 22) (v := .bool false) rfl ?_
  refine G.nil ?_
  refine C.condF rfl ?_
  refine C.skip ?_
  refine C.seq ?_
  refine C.region ?_
  refine G.call E11 rfl rfl trivial rfl rfl (new_spec W0 _ 1410) rfl ?_
  rintro e L2 ⟨bd, bl, rfl, rfl⟩
  rw [show clampN 1410 = 1410 from rfl]
  generalize newDv 1410 = d0 at *
  refine G.assignP rfl trivial rfl rfl rfl ?_
  refine G.nil ?_
  refine C.seq ?_
  refine C.region ?_
  refine G.moveP rfl trivial rfl rfl rfl ?_
  refine G.call E10 rfl rfl trivial rfl rfl (wa_make W0 [] _ bd bl d0 hok0 hlv0 hln0) rfl ?_
  rintro e L2 ⟨bg, bs, sg, sp, d1, rfl, hw1, rfl⟩
  refine G.moveU rfl trivial rfl rfl rfl ?_
  refine G.extractL rfl trivial rfl rfl rfl rfl ?_
  refine G.extractL rfl trivial rfl rfl rfl rfl ?_
  refine G.assignP rfl trivial rfl rfl rfl ?_
  refine G.assignI rfl trivial rfl rfl rfl ?_
  refine G.nil ?_
  refine C.seq ?_
  refine C.seq ?_
  refine C.region ?_
  refine G.moveI rfl trivial rfl rfl rfl ?_
  refine G.bin rfl trivial rfl rfl rfl rfl rfl ?_
  refine G.moveB rfl trivial rfl rfl rfl ?_
  refine G.no (t := 31) rfl (by simp) ?_
  refine G.moveI rfl ⟨_, rfl, rfl, rfl⟩ rfl rfl rfl ?_
  refine G.bin rfl ⟨_, rfl, rfl, rfl⟩ rfl rfl rfl rfl rfl ?_
  first | refine G.pickT rfl trivial rfl rfl rfl rfl ?_ | refine G.pickF rfl trivial rfl rfl rfl rfl ?_
  refine G.nil ?_
  refine C.no rfl (by omega) ?_
  refine C.skip ?_
  refine C.seq ?_
  refine C.region ?_
  refine G.assignS rfl trivial rfl rfl rfl ?_
  refine G.less (fun _ h => h.empty) ?_
  refine G.nil ?_
  refine C.seq ?_
  refine C.seq ?_
  refine C.region ?_
  refine G.assignI rfl trivial rfl rfl rfl ?_
  refine G.nil ?_
  refine C.post (fun F D' L' => ∃ (i T : Nat) (fs us : List (List UInt8)) (d : Dv) (sg sp sA : Seg) (aA : Option Addr) (cA : Nat), i ≤ 15 ∧ (fs ++ us).length = i ∧ size fs + size us ≤ 504 * i ∧ T ≤ i + 1 ∧ (fz < (i : Int) → (fs.length : Int) = fz + 1) ∧ ((i : Int) ≤ fz → fs = []) ∧ WA bg bs bd 0 fs us T d sg sp ∧ OwnS (.slice aA i cA) i ((fs ++ us).map strV) 9 1 sA ∧ F 11 = .slice aA i cA ∧ F 9 = ptr bg ∧ F 8 = ptr bd ∧ F 1 = .int .i64 fz ∧ F 2 = .slice a2 ks.length c2 ∧ D' = [] ∧ sA :: sg :: sp :: devSeg bd bl d :: [] = L') ?_ ?_
  ·
    refine C.block ?_
    refine C.loop (fun m F D' L' => ∃ (i T : Nat) (fs us : List (List UInt8)) (d : Dv) (sg sp sA : Seg) (aA : Option Addr) (cA : Nat), i ≤ zs.length ∧ i ≤ 15 ∧ (fs ++ us).length = i ∧ size fs + size us ≤ 504 * i ∧ T ≤ i + 1 ∧ (fz < (i : Int) → (fs.length : Int) = fz + 1) ∧ ((i : Int) ≤ fz → fs = []) ∧ WA bg bs bd 0 fs us T d sg sp ∧ OwnS (.slice aA i cA) i ((fs ++ us).map strV) 9 1 sA ∧ m = zs.length - i ∧ F 12 = .int .i64 (i : Int) ∧ F 11 = .slice aA i cA ∧ F 9 = ptr bg ∧ F 8 = ptr bd ∧ F 0 = .slice a0 zs.length c0 ∧ F 1 = .int .i64 fz ∧ F 2 = .slice a2 ks.length c2 ∧ D' = [] ∧ sA :: sg :: sp :: devSeg bd bl d :: [] = L') ⟨_, ⟨0, 1, [], [], d1, sg, sp, [], none, 0, by omega, by omega, rfl, by simp [size_nil], by omega, fun h => by omega, fun _ => rfl, hw1, OwnS.nil _ _, rfl, rfl, rfl, rfl, rfl, rfl, rfl, rfl, rfl, rfl⟩⟩ ?_
    rintro m F D' L' ⟨i, T, fs, us, d, sg, sp, sA, aA, cA, hi, hi15, hlen, hsz, hT, hf1, hf2, hw, hoA, rfl, h12, h11, h9, h8, h0', h1', h2', rfl, rfl⟩
    refine C.fix (d := 12) h12 ?_
    refine C.fix (d := 11) h11 ?_
    refine C.fix (d := 9) h9 ?_
    refine C.fix (d := 8) h8 ?_
    refine C.fix (d := 0) h0' ?_
    refine C.fix (d := 1) h1' ?_
    refine C.fix (d := 2) h2' ?_
    refine C.seq ?_
    refine C.seq ?_
    refine C.region ?_
    refine G.moveI rfl trivial rfl rfl rfl ?_
    refine G.moveS rfl trivial rfl rfl rfl ?_
    refine G.lenSlice rfl trivial rfl rfl Try.underlying40 rfl ?_
    refine G.bin rfl trivial rfl rfl rfl rfl rfl ?_
    refine G.moveB rfl trivial rfl rfl rfl ?_
    refine G.fork (t := 41) _ rfl ?_ ?_
    · intro hg41
      refine G.moveI rfl ⟨_, rfl, rfl, rfl⟩ rfl rfl rfl ?_
      refine G.bin rfl ⟨_, rfl, rfl, rfl⟩ rfl rfl rfl rfl rfl ?_
      first | refine G.pickT rfl trivial rfl rfl rfl rfl ?_ | refine G.pickF rfl trivial rfl rfl rfl rfl ?_
      refine G.nil ?_
      refine C.cond _ rfl ?_ ?_
      · intro hc2
        have hlt : i < zs.length := by omega
        obtain ⟨p0, q0, rfl, _⟩ := (r0 []).some_ (by simp; omega)
        obtain ⟨N, hN, hN1, hN2, n1, n2, n3, n4, n5, n6⟩ := size_one zs[i] 300 (by decide) (by decide)
        have hbl := ringB_length N i 1
        have hsu : size (us ++ [ringB N i 1]) = size us + (N + 4) := by rw [size_append, size_cons, size_nil, hbl]
        have hfl : fs.length + us.length = i := by rw [← List.length_append]; exact hlen
        refine C.skip ?_
        refine C.seq ?_
        refine C.block ?_
        refine C.seq ?_
        refine C.region ?_
        refine G.moveS rfl trivial rfl rfl rfl ?_
        refine G.moveI rfl trivial rfl rfl rfl ?_
        refine G.indexAddr rfl trivial rfl rfl Try.underlying40 I3 rfl rfl (by omega) ?_
        refine G.load (v := .int .i64 zs[i]) rfl trivial rfl rfl Try.underlying3 rfl rfl (fun w hm => Rd.ints_at r0 hlt w hm) ?_
        refine G.rem rfl trivial rfl rfl rfl rfl (by omega) ?_
        refine G.add rfl trivial rfl rfl rfl rfl (by omega) ?_
        refine G.rem rfl trivial rfl rfl rfl rfl (by omega) ?_
        refine G.add rfl trivial rfl rfl rfl rfl (by omega) ?_
        refine G.fix (d := 54) (v := .int .i64 (N : Int)) (by show Value.int .i64 _ = _; rw [← hN]) ?_
        refine G.makeBytes (l := N) (c := N) rfl trivial rfl rfl Try.underlying31 I5 rfl rfl (by omega) ?_
        intro b55
        refine G.assignS rfl trivial rfl rfl rfl ?_
        refine G.nil ?_
        refine C.seq ?_
        refine C.region ?_
        refine G.moveS rfl trivial rfl rfl rfl ?_
        refine G.moveS rfl trivial rfl rfl rfl ?_
        refine G.moveS rfl trivial rfl rfl rfl ?_
        refine G.lenSlice rfl trivial rfl rfl Try.underlying31 rfl ?_
        refine G.sub rfl trivial rfl rfl rfl rfl (by omega) ?_
        refine G.fix (d := 60) (v := .int .i64 ((N - 1 : Nat) : Int)) (by show Value.int .i64 _ = _; congr 1; omega) ?_
        refine G.moveI rfl trivial rfl rfl rfl ?_
        refine G.convInt rfl trivial rfl rfl Try.underlying3 Try.underlying5 rfl ?_
        refine G.fix (d := 62) (v := byteV (UInt8.ofNat i)) (u8_ofN i) ?_
        refine G.moveI rfl trivial rfl rfl rfl ?_
        refine G.add rfl trivial rfl rfl rfl rfl (by omega) ?_
        refine G.convInt rfl trivial rfl rfl Try.underlying3 Try.underlying5 rfl ?_
        refine G.fix (d := 65) (v := byteV (UInt8.ofNat (i + 1))) (u8_ofN (i + 1)) ?_
        refine G.indexAddr rfl trivial rfl rfl Try.underlying31 I5 rfl rfl (by omega) ?_
        refine G.store (v := byteV (UInt8.ofNat i)) .here rfl trivial rfl I5 rfl rfl rfl (by simp; omega) (bytesV ((List.replicate N 0).set 0 (UInt8.ofNat i))) (bytesV_set _ 0 _) ?_
        refine G.indexAddr rfl trivial rfl rfl Try.underlying31 I5 rfl rfl (by omega) ?_
        refine G.store (v := byteV (UInt8.ofNat (i + 1))) .here rfl trivial rfl I5 rfl rfl rfl (by simp; omega) (bytesV (ringB N i 1)) (by rw [show 0 + ((N - 1 : Nat) : Int).toNat * 1 = N - 1 by omega]; exact bytesV_set _ (N - 1) _) ?_
        refine G.nil ?_
        refine C.seq ?_
        refine C.region ?_
        refine G.moveP rfl trivial rfl rfl rfl ?_
        refine G.moveS rfl trivial rfl rfl rfl ?_
        refine G.less (fun _ h => Mem.rot [_, _] [_] h) ?_
        refine G.call E12 rfl rfl trivial rfl rfl (wa_append W0 _ bg bs bd 0 T fs us d sg sp hw (by omega) _ N N (ringB N i 1) hbl.symm (by rw [hbl]; omega) (by rw [hbl]; omega) (fun _ => Rd.row0 (.app .here))) rfl ?_
        rintro e L2 ⟨sg2, hw2, rfl, rfl⟩
        rw [hbl]
        refine G.moveU rfl trivial rfl rfl rfl ?_
        refine G.extractL rfl trivial rfl rfl rfl rfl ?_
        refine G.extractL rfl trivial rfl rfl rfl rfl ?_
        refine G.assignI rfl trivial rfl rfl rfl ?_
        refine G.assignI rfl trivial rfl rfl rfl ?_
        refine G.nil ?_
        refine C.seq ?_
        refine C.seq ?_
        refine C.region ?_
        refine G.moveI rfl trivial rfl rfl rfl ?_
        refine G.bin rfl trivial rfl rfl rfl rfl rfl ?_
        refine G.nil ?_
        refine C.no rfl (by simp) ?_
        refine C.skip ?_
        refine C.seq ?_
        refine C.region ?_
        refine G.moveS rfl trivial rfl rfl rfl ?_
        refine G.moveS rfl trivial rfl rfl rfl ?_
        refine G.bytesStr (ringB N i 1) rfl trivial rfl rfl Try.underlying31 Try.underlying5 Try.underlying9 rfl hbl.symm (Rd.row0 (.next .here)) ?_
        refine G.buildSliceL (cs := [strV (ringB N i 1)]) (zs := [(.string ByteArray.empty)]) rfl trivial rfl rfl Try.underlying44 I9 rfl (by kernel_rfl) rfl rfl ?_
        intro b79
        refine G.less (fun _ h => Mem.rot [_, _, _] [_] h) ?_
        refine G.append hoA rfl trivial rfl rfl Try.underlying44 Try.underlying44 I9 rfl (by decide) rfl rfl (by decide) (Rd.row0 (.next .here)) rfl (by intro v hv; simp at hv; subst hv; rfl) (by omega) ?_
        intro v3 s3 hv3
        obtain ⟨a3, c3, rfl, _⟩ := hv3.form
        refine G.less (fun _ h => Mem.skip2 h.skip1) ?_
        have hU : (fs ++ us).map strV ++ [strV (ringB N i 1)] = (fs ++ (us ++ [ringB N i 1])).map strV := by simp
        rw [hU] at hv3
        refine G.assignS rfl trivial rfl rfl rfl ?_
        refine G.nil ?_
        refine C.seq ?_
        refine C.region ?_
        refine G.moveI rfl trivial rfl rfl rfl ?_
        refine G.moveI rfl trivial rfl rfl rfl ?_
        refine G.bin rfl trivial rfl rfl rfl rfl rfl ?_
        refine G.moveB rfl trivial rfl rfl rfl ?_
        refine G.fork (t := 84) _ rfl ?_ ?_
        · intro hg84
          refine G.moveP rfl ⟨_, rfl, rfl, rfl⟩ rfl rfl rfl ?_
          refine G.moveI rfl ⟨_, rfl, rfl, rfl⟩ rfl rfl rfl ?_
          refine G.less (fun _ h => Mem.rot [_] [_, _, _] h) ?_
          refine G.call E17 rfl rfl ⟨_, rfl, rfl, rfl⟩ rfl rfl (wa_forceAll W0 _ bg bs bd bl _ _ _ _ _ _ _ hw2 (by omega) (by omega) (0 + size fs + size us + (N + 4)) (by omega)) rfl ?_
          rintro e L2 ⟨sg4, sp4, d4, rfl, hw4, rfl⟩
          refine G.less (fun _ h => Mem.rot [_, _, _] [_] h) ?_
          refine G.bin rfl ⟨_, rfl, rfl, rfl⟩ rfl rfl rfl rfl rfl ?_
          first | refine G.pickT rfl trivial rfl rfl rfl rfl ?_ | refine G.pickF rfl trivial rfl rfl rfl rfl ?_
          refine G.nil ?_
          refine C.no rfl (by simp) ?_
          refine C.skip ?_
          refine C.region ?_
          refine G.moveI rfl trivial rfl rfl rfl ?_
          refine G.add rfl trivial rfl rfl rfl rfl (by omega) ?_
          refine G.assignI rfl trivial rfl rfl rfl ?_
          refine G.nil ?_
          exact ⟨zs.length - (i + 1), by omega, i + 1, T + 1, fs ++ (us ++ [ringB N i 1]), [], d4, sg4, sp4, s3, a3, c3, by omega, by omega, by simp; omega, by rw [size_append, hsu, size_nil]; omega, by omega, fun _ => by simp; omega, fun h => by omega, hw4, by rw [List.append_nil]; exact hv3, rfl, rfl, rfl, rfl, rfl, rfl, rfl, rfl, rfl, rfl⟩
        · intro hg84
          refine G.skip rfl rfl rfl rfl rfl rfl ?_
          refine G.skip rfl rfl rfl rfl rfl rfl ?_
          refine G.skip rfl rfl rfl rfl rfl rfl ?_
          refine G.skip rfl rfl rfl rfl rfl rfl ?_
          first | refine G.pickT rfl trivial rfl rfl rfl rfl ?_ | refine G.pickF rfl trivial rfl rfl rfl rfl ?_
          refine G.nil ?_
          refine C.condF rfl ?_
          refine C.skip ?_
          refine C.region ?_
          refine G.moveI rfl trivial rfl rfl rfl ?_
          refine G.add rfl trivial rfl rfl rfl rfl (by omega) ?_
          refine G.assignI rfl trivial rfl rfl rfl ?_
          refine G.nil ?_
          exact ⟨zs.length - (i + 1), by omega, i + 1, T, fs, us ++ [ringB N i 1], d, sg2, sp, s3, a3, c3, by omega, by omega, by simp; omega, by rw [hsu]; omega, by omega, fun h => hf1 (by omega), fun h => hf2 (by omega), hw2, hv3, rfl, rfl, rfl, rfl, rfl, rfl, rfl, rfl, rfl, rfl⟩
      · intro hc2
        refine C.exit ?_
        exact ⟨i, T, fs, us, d, sg, sp, sA, aA, cA, hi15, hlen, hsz, hT, hf1, hf2, hw, hoA, rfl, rfl, rfl, rfl, rfl, rfl, rfl⟩
    · intro hg41
      refine G.skip rfl rfl rfl rfl rfl rfl ?_
      refine G.skip rfl rfl rfl rfl rfl rfl ?_
      first | refine G.pickT rfl trivial rfl rfl rfl rfl ?_ | refine G.pickF rfl trivial rfl rfl rfl rfl ?_
      refine G.nil ?_
      refine C.condF rfl ?_
      refine C.exit ?_
      exact ⟨i, T, fs, us, d, sg, sp, sA, aA, cA, hi15, hlen, hsz, hT, hf1, hf2, hw, hoA, rfl, rfl, rfl, rfl, rfl, rfl, rfl⟩
  ·
    rintro F D' L' ⟨i, T, fs, us, d, sg, sp, sA, aA, cA, hi15, hlen, hsz, hT, hf1, hf2, hw, hoA, h11, h9, h8, h1', h2', rfl, rfl⟩
    refine C.fix (d := 11) h11 ?_
    refine C.fix (d := 9) h9 ?_
    refine C.fix (d := 8) h8 ?_
    refine C.fix (d := 1) h1' ?_
    refine C.fix (d := 2) h2' ?_
    refine C.seq ?_
    refine C.region ?_
    refine G.moveP rfl trivial rfl rfl rfl ?_
    refine G.moveS rfl trivial rfl rfl rfl ?_
    have hfl : fs.length + us.length = i := by rw [← List.length_append]; exact hlen
    obtain ⟨hok4, hln4, hlv4⟩ := hw.dev
    have hwd4 := hw.wd ks
    refine G.call E20 rfl rfl trivial rfl rfl (crash_spec W0 [_, _, _] _ bd bl d hok4 (by omega) a2 c2 ks hk2 (fun _ => r2 _)) rfl ?_
    rintro e L2 ⟨bc, bcl, rfl, rfl⟩
    have hlc4 := crash_live d ks
    generalize d.crash ks = dc at *
    refine G.call E16 rfl rfl trivial rfl rfl (wa_open W0 [] _ bc bcl _ _ _ dc hwd4 hlc4 (by omega) (by omega)) rfl ?_
    rintro e L2 ⟨bg5, bs5, sg5, sp5, v5, ls5, s50, s51, rfl, hw5, hro5, hls5, rfl⟩
    obtain ⟨p5, q5, rfl, hr5⟩ := hro5.form
    have hl5 := ls_length hls5
    obtain ⟨aB, cB, hB, hrA⟩ := hoA.form
    cases hB
    refine G.moveU rfl trivial rfl rfl rfl ?_
    refine G.extractL rfl trivial rfl rfl rfl rfl ?_
    refine G.extractL rfl trivial rfl rfl rfl rfl ?_
    refine G.extractL rfl trivial rfl rfl rfl rfl ?_
    refine G.assignP rfl trivial rfl rfl rfl ?_
    refine G.assignS rfl trivial rfl rfl rfl ?_
    refine G.assignI rfl trivial rfl rfl rfl ?_
    refine G.nil ?_
    refine C.seq ?_
    refine C.seq ?_
    refine C.region ?_
    refine G.moveI rfl trivial rfl rfl rfl ?_
    refine G.bin rfl trivial rfl rfl rfl rfl rfl ?_
    refine G.moveB rfl trivial rfl rfl rfl ?_
    refine G.no (t := 100) rfl (by simp) ?_
    refine G.moveS rfl ⟨_, rfl, rfl, rfl⟩ rfl rfl rfl ?_
    refine G.lenSlice rfl ⟨_, rfl, rfl, rfl⟩ rfl rfl Try.underlying36 rfl ?_
    refine G.moveS rfl ⟨_, rfl, rfl, rfl⟩ rfl rfl rfl ?_
    refine G.lenSlice rfl ⟨_, rfl, rfl, rfl⟩ rfl rfl Try.underlying44 rfl ?_
    refine G.bin rfl ⟨_, rfl, rfl, rfl⟩ rfl rfl rfl rfl rfl ?_
    first | refine G.pickT rfl trivial rfl rfl rfl rfl ?_ | refine G.pickF rfl trivial rfl rfl rfl rfl ?_
    refine G.moveB rfl trivial rfl rfl rfl ?_
    refine G.no (t := 107) rfl (by omega) ?_
    refine G.moveI rfl ⟨_, rfl, rfl, rfl⟩ rfl rfl rfl ?_
    refine G.moveS rfl ⟨_, rfl, rfl, rfl⟩ rfl rfl rfl ?_
    refine G.lenSlice rfl ⟨_, rfl, rfl, rfl⟩ rfl rfl Try.underlying44 rfl ?_
    refine G.bin rfl ⟨_, rfl, rfl, rfl⟩ rfl rfl rfl rfl rfl ?_
    refine G.moveB rfl ⟨_, rfl, rfl, rfl⟩ rfl rfl rfl ?_
    refine G.fork (t := 112) _ rfl ?_ ?_
    · intro hg112
      refine G.moveS rfl ⟨_, rfl, rfl, rfl⟩ rfl rfl rfl ?_
      refine G.lenSlice rfl ⟨_, rfl, rfl, rfl⟩ rfl rfl Try.underlying36 rfl ?_
      refine G.moveI rfl ⟨_, rfl, rfl, rfl⟩ rfl rfl rfl ?_
      refine G.add rfl ⟨_, rfl, rfl, rfl⟩ rfl rfl rfl rfl (by omega) ?_
      refine G.bin rfl ⟨_, rfl, rfl, rfl⟩ rfl rfl rfl rfl rfl ?_
      first | refine G.pickT rfl ⟨_, rfl, rfl, rfl⟩ rfl rfl rfl rfl ?_ | refine G.pickF rfl ⟨_, rfl, rfl, rfl⟩ rfl rfl rfl rfl ?_
      first | refine G.pickT rfl trivial rfl rfl rfl rfl ?_ | refine G.pickF rfl trivial rfl rfl rfl rfl ?_
      refine G.nil ?_
      refine C.no rfl (by omega) ?_
      refine C.skip ?_
      refine C.seq ?_
      refine C.seq ?_
      refine C.region ?_
      refine G.assignI rfl trivial rfl rfl rfl ?_
      refine G.nil ?_
      refine C.block ?_
      refine C.loop (fun m F D' L' => ∃ j : Nat, j ≤ fs.length ∧ m = fs.length - j ∧ F 19 = .int .i64 (j : Int) ∧ F 17 = .slice p5 ls5.length q5 ∧ F 11 = .slice aA i cA ∧ D' = [] ∧ s50 :: s51 :: sg5 :: sp5 :: devSeg bc bcl dc :: sA :: sg :: sp :: devSeg bd bl d :: [] = L') ⟨_, ⟨0, by omega, rfl, rfl, rfl, rfl, rfl, rfl⟩⟩ ?_
      rintro m F D' L' ⟨j, hj, rfl, h19, h17, h11, rfl, rfl⟩
      refine C.fix (d := 19) h19 ?_
      refine C.fix (d := 17) h17 ?_
      refine C.fix (d := 11) h11 ?_
      refine C.seq ?_
      refine C.seq ?_
      refine C.region ?_
      refine G.moveI rfl trivial rfl rfl rfl ?_
      refine G.moveS rfl trivial rfl rfl rfl ?_
      refine G.lenSlice rfl trivial rfl rfl Try.underlying36 rfl ?_
      refine G.bin rfl trivial rfl rfl rfl rfl rfl ?_
      refine G.nil ?_
      refine C.cond _ rfl ?_ ?_
      · intro hc6
        have hlt : j < fs.length := by omega
        obtain ⟨b, hb⟩ : ∃ b, fs[j]? = some b := ⟨_, List.getElem?_eq_getElem hlt⟩
        have hbU : ((fs ++ us).map strV)[j]? = some (strV b) := by rw [List.getElem?_map, List.getElem?_append_left hlt, hb]; rfl
        obtain ⟨a6, c6, hx6⟩ := ls_at hls5 hb
        have hm6 := List.mem_of_getElem? hx6
        have hr6 := hro5.2 _ hm6
        simp only at hr6
        obtain ⟨x5, y5, hp5, _⟩ := (hr5 W0 []).some_ (by simp; omega)
        obtain ⟨xA, yA, hpA, _⟩ := (hrA W0 []).some_ (by simp; omega)
        have hr7 : ∀ W0 L, Rd W0 (s50 :: L) (some ⟨x5, y5, none⟩) (ls5.map hdrB) := hp5 ▸ hr5
        have hrB : ∀ W0 L, Rd W0 (sA :: L) (some ⟨xA, yA, none⟩) ((fs ++ us).map strV) := hpA ▸ hrA
        refine C.fix (d := 17) (v := .slice (some ⟨x5, y5, none⟩) ls5.length q5) (by rw [← hp5]; rfl) ?_
        refine C.fix (d := 11) (v := .slice (some ⟨xA, yA, none⟩) i cA) (by rw [← hpA]; rfl) ?_
        refine C.skip ?_
        refine C.seq ?_
        refine C.block ?_
        refine C.seq ?_
        refine C.drawn mixed (_) [] (fun _ h => h) ?_
        refine GA.pure (i := 0) (fun _ _ _ _ _ h => h) rfl (by kernel_rfl) trivial rfl rfl (Y.moveS rfl rfl) (#[true, false, false, false, false, false, false, false, false, false]) (by kernel_rfl) ?_
        refine GA.pure (i := 1) (fun _ _ _ _ _ h => h) rfl (by kernel_rfl) trivial rfl rfl (Y.moveI rfl rfl) (#[true, true, false, false, false, false, false, false, false, false]) (by kernel_rfl) ?_
        refine GA.pure (i := 2) (fun _ _ _ _ _ h => h) rfl (by kernel_rfl) trivial rfl rfl (Y.indexAddr rfl Try.underlying36 I31 rfl rfl (by omega)) (#[true, true, true, false, false, false, false, false, false, false]) (by kernel_rfl) ?_
        refine GA.read (i := 3) (fun _ _ _ _ _ h => h) rfl (by kernel_rfl) (by kernel_rfl) trivial rfl rfl (Y.load rfl Try.underlying31 rfl rfl (row_cell (hr7 _ _) (i := j) hx6 rfl)) (#[true, true, true, true, false, false, false, false, false, false]) (by kernel_rfl) ?_
        refine GA.read (i := 4) (fun _ _ _ _ _ h => h) rfl (by kernel_rfl) (by kernel_rfl) trivial rfl rfl (Y.bytesStr b rfl Try.underlying31 Try.underlying5 Try.underlying9 rfl rfl (Rd.under hr6 [_])) (#[true, true, true, true, true, false, false, false, false, false]) (by kernel_rfl) ?_
        refine GA.pure (i := 5) (fun _ _ _ _ _ h => h) rfl (by kernel_rfl) trivial rfl rfl (Y.moveS rfl rfl) (#[true, true, true, true, true, true, false, false, false, false]) (by kernel_rfl) ?_
        refine GA.pure (i := 6) (fun _ _ _ _ _ h => h) rfl (by kernel_rfl) trivial rfl rfl (Y.moveI rfl rfl) (#[true, true, true, true, true, true, true, false, false, false]) (by kernel_rfl) ?_
        refine GA.pure (i := 7) (fun _ _ _ _ _ h => h) rfl (by kernel_rfl) trivial rfl rfl (Y.indexAddr rfl Try.underlying44 I9 rfl rfl (by omega)) (#[true, true, true, true, true, true, true, true, false, false]) (by kernel_rfl) ?_
        refine GA.read (i := 8) (fun _ _ _ _ _ h => h) rfl (by kernel_rfl) (by kernel_rfl) trivial rfl rfl (Y.load rfl Try.underlying9 rfl rfl (any_cell (Rd.under hrB [_, _, _, _, _]) (i := j) hbU rfl)) (#[true, true, true, true, true, true, true, true, true, false]) (by kernel_rfl) ?_
        refine GA.pure (i := 9) (fun _ _ _ _ _ h => h) rfl (by kernel_rfl) trivial rfl rfl (Y.strNe rfl  rfl rfl) (#[true, true, true, true, true, true, true, true, true, true]) (by kernel_rfl) ?_
        refine GA.done (by kernel_rfl) ?_
        refine C.no rfl (by simp) ?_
        refine C.skip ?_
        refine C.region ?_
        refine G.moveI rfl trivial rfl rfl rfl ?_
        refine G.add rfl trivial rfl rfl rfl rfl (by omega) ?_
        refine G.assignI rfl trivial rfl rfl rfl ?_
        refine G.nil ?_
        exact ⟨fs.length - (j + 1), by omega, j + 1, by omega, rfl, rfl, by rw [hp5]; rfl, by rw [hpA]; rfl, rfl, rfl⟩
      · intro hc6
        refine C.exit ?_
        refine C.seq ?_
        refine C.region ?_
        refine G.assignB rfl trivial rfl rfl rfl ?_
        refine G.nil ?_
        refine C.ret ?_
        -- end g112Tc6F
        exact ⟨rfl, _, Res.of (rs := [.tmp 6]) rfl rfl, rfl⟩
    · intro hg112
      refine G.skip rfl rfl rfl rfl rfl rfl ?_
      refine G.skip rfl rfl rfl rfl rfl rfl ?_
      refine G.skip rfl rfl rfl rfl rfl rfl ?_
      refine G.skip rfl rfl rfl rfl rfl rfl ?_
      refine G.skip rfl rfl rfl rfl rfl rfl ?_
      first | refine G.pickT rfl ⟨_, rfl, rfl, rfl⟩ rfl rfl rfl rfl ?_ | refine G.pickF rfl ⟨_, rfl, rfl, rfl⟩ rfl rfl rfl rfl ?_
      first | refine G.pickT rfl trivial rfl rfl rfl rfl ?_ | refine G.pickF rfl trivial rfl rfl rfl rfl ?_
      refine G.nil ?_
      refine C.condF rfl ?_
      refine C.skip ?_
      refine C.seq ?_
      refine C.seq ?_
      refine C.region ?_
      refine G.assignI rfl trivial rfl rfl rfl ?_
      refine G.nil ?_
      refine C.block ?_
      refine C.loop (fun m F D' L' => ∃ j : Nat, j ≤ fs.length ∧ m = fs.length - j ∧ F 19 = .int .i64 (j : Int) ∧ F 17 = .slice p5 ls5.length q5 ∧ F 11 = .slice aA i cA ∧ D' = [] ∧ s50 :: s51 :: sg5 :: sp5 :: devSeg bc bcl dc :: sA :: sg :: sp :: devSeg bd bl d :: [] = L') ⟨_, ⟨0, by omega, rfl, rfl, rfl, rfl, rfl, rfl⟩⟩ ?_
      rintro m F D' L' ⟨j, hj, rfl, h19, h17, h11, rfl, rfl⟩
      refine C.fix (d := 19) h19 ?_
      refine C.fix (d := 17) h17 ?_
      refine C.fix (d := 11) h11 ?_
      refine C.seq ?_
      refine C.seq ?_
      refine C.region ?_
      refine G.moveI rfl trivial rfl rfl rfl ?_
      refine G.moveS rfl trivial rfl rfl rfl ?_
      refine G.lenSlice rfl trivial rfl rfl Try.underlying36 rfl ?_
      refine G.bin rfl trivial rfl rfl rfl rfl rfl ?_
      refine G.nil ?_
      refine C.cond _ rfl ?_ ?_
      · intro hc6
        have hlt : j < fs.length := by omega
        obtain ⟨b, hb⟩ : ∃ b, fs[j]? = some b := ⟨_, List.getElem?_eq_getElem hlt⟩
        have hbU : ((fs ++ us).map strV)[j]? = some (strV b) := by rw [List.getElem?_map, List.getElem?_append_left hlt, hb]; rfl
        obtain ⟨a6, c6, hx6⟩ := ls_at hls5 hb
        have hm6 := List.mem_of_getElem? hx6
        have hr6 := hro5.2 _ hm6
        simp only at hr6
        obtain ⟨x5, y5, hp5, _⟩ := (hr5 W0 []).some_ (by simp; omega)
        obtain ⟨xA, yA, hpA, _⟩ := (hrA W0 []).some_ (by simp; omega)
        have hr7 : ∀ W0 L, Rd W0 (s50 :: L) (some ⟨x5, y5, none⟩) (ls5.map hdrB) := hp5 ▸ hr5
        have hrB : ∀ W0 L, Rd W0 (sA :: L) (some ⟨xA, yA, none⟩) ((fs ++ us).map strV) := hpA ▸ hrA
        refine C.fix (d := 17) (v := .slice (some ⟨x5, y5, none⟩) ls5.length q5) (by rw [← hp5]; rfl) ?_
        refine C.fix (d := 11) (v := .slice (some ⟨xA, yA, none⟩) i cA) (by rw [← hpA]; rfl) ?_
        refine C.skip ?_
        refine C.seq ?_
        refine C.block ?_
        refine C.seq ?_
        refine C.drawn mixed (_) [] (fun _ h => h) ?_
        refine GA.pure (i := 0) (fun _ _ _ _ _ h => h) rfl (by kernel_rfl) trivial rfl rfl (Y.moveS rfl rfl) (#[true, false, false, false, false, false, false, false, false, false]) (by kernel_rfl) ?_
        refine GA.pure (i := 1) (fun _ _ _ _ _ h => h) rfl (by kernel_rfl) trivial rfl rfl (Y.moveI rfl rfl) (#[true, true, false, false, false, false, false, false, false, false]) (by kernel_rfl) ?_
        refine GA.pure (i := 2) (fun _ _ _ _ _ h => h) rfl (by kernel_rfl) trivial rfl rfl (Y.indexAddr rfl Try.underlying36 I31 rfl rfl (by omega)) (#[true, true, true, false, false, false, false, false, false, false]) (by kernel_rfl) ?_
        refine GA.read (i := 3) (fun _ _ _ _ _ h => h) rfl (by kernel_rfl) (by kernel_rfl) trivial rfl rfl (Y.load rfl Try.underlying31 rfl rfl (row_cell (hr7 _ _) (i := j) hx6 rfl)) (#[true, true, true, true, false, false, false, false, false, false]) (by kernel_rfl) ?_
        refine GA.read (i := 4) (fun _ _ _ _ _ h => h) rfl (by kernel_rfl) (by kernel_rfl) trivial rfl rfl (Y.bytesStr b rfl Try.underlying31 Try.underlying5 Try.underlying9 rfl rfl (Rd.under hr6 [_])) (#[true, true, true, true, true, false, false, false, false, false]) (by kernel_rfl) ?_
        refine GA.pure (i := 5) (fun _ _ _ _ _ h => h) rfl (by kernel_rfl) trivial rfl rfl (Y.moveS rfl rfl) (#[true, true, true, true, true, true, false, false, false, false]) (by kernel_rfl) ?_
        refine GA.pure (i := 6) (fun _ _ _ _ _ h => h) rfl (by kernel_rfl) trivial rfl rfl (Y.moveI rfl rfl) (#[true, true, true, true, true, true, true, false, false, false]) (by kernel_rfl) ?_
        refine GA.pure (i := 7) (fun _ _ _ _ _ h => h) rfl (by kernel_rfl) trivial rfl rfl (Y.indexAddr rfl Try.underlying44 I9 rfl rfl (by omega)) (#[true, true, true, true, true, true, true, true, false, false]) (by kernel_rfl) ?_
        refine GA.read (i := 8) (fun _ _ _ _ _ h => h) rfl (by kernel_rfl) (by kernel_rfl) trivial rfl rfl (Y.load rfl Try.underlying9 rfl rfl (any_cell (Rd.under hrB [_, _, _, _, _]) (i := j) hbU rfl)) (#[true, true, true, true, true, true, true, true, true, false]) (by kernel_rfl) ?_
        refine GA.pure (i := 9) (fun _ _ _ _ _ h => h) rfl (by kernel_rfl) trivial rfl rfl (Y.strNe rfl  rfl rfl) (#[true, true, true, true, true, true, true, true, true, true]) (by kernel_rfl) ?_
        refine GA.done (by kernel_rfl) ?_
        refine C.no rfl (by simp) ?_
        refine C.skip ?_
        refine C.region ?_
        refine G.moveI rfl trivial rfl rfl rfl ?_
        refine G.add rfl trivial rfl rfl rfl rfl (by omega) ?_
        refine G.assignI rfl trivial rfl rfl rfl ?_
        refine G.nil ?_
        exact ⟨fs.length - (j + 1), by omega, j + 1, by omega, rfl, rfl, by rw [hp5]; rfl, by rw [hpA]; rfl, rfl, rfl⟩
      · intro hc6
        refine C.exit ?_
        refine C.seq ?_
        refine C.region ?_
        refine G.assignB rfl trivial rfl rfl rfl ?_
        refine G.nil ?_
        refine C.ret ?_
        -- end g112Fc6F
        exact ⟨rfl, _, Res.of (rs := [.tmp 6]) rfl rfl, rfl⟩
theorem force_walk_no (W0 : World) (v0 v2 : Value) (fz : Int) (h : fz < 0) (h0 : ∃ a l c, v0 = .slice a l c) (h2 : ∃ a l c, v2 = .slice a l c) :
    FnS Try.prog W0 7 #[v0, .int .i64 fz, v2] [] (fun e _ => e = .returned (.bool true)) := by
  obtain ⟨hok0, hlv0, hln0⟩ := newW
  refine FnS.of (args := [v0, .int .i64 fz, v2]) Try.func7 rfl rfl ?_
  refine C.seq ?_
  refine C.region ?_
  refine G.assignB rfl trivial rfl rfl rfl ?_
  refine G.nil ?_
  refine C.seq ?_
  refine C.region ?_
  refine G.call E9 rfl rfl trivial rfl rfl (beganW_spec W0 _) rfl ?_
  rintro e L2 ⟨rfl, rfl⟩
  refine G.assignB rfl trivial rfl rfl rfl ?_
  refine G.nil ?_
  refine C.seq ?_
  refine C.seq ?_
  refine C.region ?_
  refine G.moveB rfl trivial rfl rfl rfl ?_
  first | refine G.notD rfl trivial rfl rfl rfl ?_ | refine G.not rfl trivial rfl rfl rfl ?_
  refine G.fix (d := 22) (v := .bool false) rfl ?_
  refine G.nil ?_
  refine C.condF rfl ?_
  refine C.skip ?_
  refine C.seq ?_
  refine C.region ?_
  refine G.call E11 rfl rfl trivial rfl rfl (new_spec W0 _ 1410) rfl ?_
  rintro e L2 ⟨bd, bl, rfl, rfl⟩
  rw [show clampN 1410 = 1410 from rfl]
  generalize newDv 1410 = d0 at *
  refine G.assignP rfl trivial rfl rfl rfl ?_
  refine G.nil ?_
  refine C.seq ?_
  refine C.region ?_
  refine G.moveP rfl trivial rfl rfl rfl ?_
  refine G.call E10 rfl rfl trivial rfl rfl (wa_make W0 [] _ bd bl d0 hok0 hlv0 hln0) rfl ?_
  rintro e L2 ⟨bg, bs, sg, sp, d1, rfl, hw1, rfl⟩
  refine G.moveU rfl trivial rfl rfl rfl ?_
  refine G.extractL rfl trivial rfl rfl rfl rfl ?_
  refine G.extractL rfl trivial rfl rfl rfl rfl ?_
  refine G.assignP rfl trivial rfl rfl rfl ?_
  refine G.assignI rfl trivial rfl rfl rfl ?_
  refine G.nil ?_
  refine C.seq ?_
  refine C.seq ?_
  refine C.region ?_
  refine G.moveI rfl trivial rfl rfl rfl ?_
  refine G.bin rfl trivial rfl rfl rfl rfl rfl ?_
  refine G.moveB rfl trivial rfl rfl rfl ?_
  refine G.no (t := 31) rfl (by simp) ?_
  refine G.moveI rfl ⟨_, rfl, rfl, rfl⟩ rfl rfl rfl ?_
  refine G.bin rfl ⟨_, rfl, rfl, rfl⟩ rfl rfl rfl rfl rfl ?_
  first | refine G.pickT rfl trivial rfl rfl rfl rfl ?_ | refine G.pickF rfl trivial rfl rfl rfl rfl ?_
  refine G.nil ?_
  refine C.yes rfl (by omega) ?_
  refine C.seq ?_
  refine C.region ?_
  refine G.moveI rfl trivial rfl rfl rfl ?_
  refine G.bin rfl trivial rfl rfl rfl rfl rfl ?_
  refine G.assignB rfl trivial rfl rfl rfl ?_
  refine G.nil ?_
  refine C.ret ?_
  -- end 
  exact ⟨rfl, _, Res.of (rs := [.tmp 6]) rfl rfl, rfl⟩
end Go.Proofs.Ytjfjmhmfhkdcbaa
