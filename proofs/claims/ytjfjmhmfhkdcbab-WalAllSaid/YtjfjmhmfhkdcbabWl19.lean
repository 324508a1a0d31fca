/-
  WalAll, walked.
-/
import Derived.Test.YtjfjmhmfhkdcbabWl18
namespace Go.Proofs.Ytjfjmhmfhkdcbab
open Go Go.SL Go.RowKit Go.Deep

theorem wopC_ok (o : WOp) : ∀ v ∈ wopC o, cellsOk v = true := by
  intro v hv
  simp only [wopC, List.mem_cons, List.not_mem_nil, or_false] at hv
  rcases hv with rfl | rfl | rfl | rfl | rfl | rfl <;> rfl
def WOk (W : World) (o : WOp) : Prop := o.bs.length ≤ o.bc ∧ o.bc ≤ maxLen ∧ o.ks.length ≤ o.kc ∧ o.kc ≤ maxLen ∧ (-9223372036854775808 ≤ o.to ∧ o.to ≤ 9223372036854775807) ∧ (-9223372036854775808 ≤ o.big ∧ o.big ≤ 9223372036854775807) ∧ (-9223372036854775808 ≤ o.fuse ∧ o.fuse ≤ 9223372036854775807) ∧ (∀ L, Rd W L o.ba (bytesV o.bs)) ∧ ∀ L, Rd W L o.ka (o.ks.map Value.bool)
def WOps (W : World) (a : Option Addr) (len cap : Nat) (ls : List WOp) : Prop :=
  len = ls.length ∧ len ≤ cap ∧ cap ≤ maxLen ∧ (∀ L, Rd W L a (ls.flatMap wopC)) ∧ ∀ o ∈ ls, WOk W o
theorem open_wops {H : Type} {enc : TypeId × Value → H} {P : Program} {W : World} {base : Nat} {held : Bool} {t e i0 i3 q i5 q5 : TypeId} {f0 f1 f2 f3 f4 f5 : Field} {fuel len cap : Nat} {a : Option Addr} {x : DataW H × List MemPlace} (ht : P.underlying t = some (.slice e)) (he : P.underlying e = some (.struct #[f0, f1, f2, f3, f4, f5])) (hc : P.cellsOf e = 6)
    (hi : P.underlying i0 = some (.int .i64)) (hci : P.cellsOf i0 = 1) (hi3 : P.underlying i3 = some (.slice q)) (hci3 : P.cellsOf i3 = 1) (hq : P.underlying q = some (.int .u8)) (hcq : P.cellsOf q = 1) (hi5 : P.underlying i5 = some (.slice q5)) (hci5 : P.cellsOf i5 = 1) (hq5 : P.underlying q5 = some .bool) (hcq5 : P.cellsOf q5 = 1)
    (e0 : f0.type = i0 ∧ f0.offset = 0) (e1 : f1.type = i0 ∧ f1.offset = 1) (e2 : f2.type = i0 ∧ f2.offset = 2) (e3 : f3.type = i3 ∧ f3.offset = 3) (e4 : f4.type = i0 ∧ f4.offset = 4) (e5 : f5.type = i5 ∧ f5.offset = 5)
    (h : DataW.trod enc P W base (fun _ => true) held fuel t [.slice a len cap] = some x) : ∃ ls, WOps W a len cap ls := by
  obtain ⟨ls, h1, h2, h3, h4, h5⟩ := open_structs (α := WOp) wopC (WOk W) ht he (by omega) (fun cs n hlen hf => by
    rw [hc] at hlen
    match cs, hlen with
    | [u, v, z, s, y, k], _ =>
      obtain ⟨y0, hy0⟩ := hf 0 f0 rfl
      obtain ⟨y1, hy1⟩ := hf 1 f1 rfl
      obtain ⟨y2, hy2⟩ := hf 2 f2 rfl
      obtain ⟨y3, hy3⟩ := hf 3 f3 rfl
      obtain ⟨y4, hy4⟩ := hf 4 f4 rfl
      obtain ⟨y5, hy5⟩ := hf 5 f5 rfl
      rw [e0.1, e0.2, hci] at hy0
      rw [e1.1, e1.2, hci] at hy1
      rw [e2.1, e2.2, hci] at hy2
      rw [e3.1, e3.2, hci3] at hy3
      rw [e4.1, e4.2, hci] at hy4
      rw [e5.1, e5.2, hci5] at hy5
      obtain ⟨n0, g0, _, w0⟩ := DataW.trod_int hi hy0
      obtain ⟨n1, g1, _, w1⟩ := DataW.trod_int hi hy1
      obtain ⟨n2, g2, _, w2⟩ := DataW.trod_int hi hy2
      obtain ⟨n4, g4, _, w4⟩ := DataW.trod_int hi hy4
      simp only [List.drop_zero, List.take_succ_cons, List.take_zero, List.cons.injEq, and_true, List.drop_succ_cons] at g0 g1 g2 g4 hy5
      subst g0 g1 g2 g4
      obtain ⟨ak, lk, ck, rfl⟩ : ∃ a l c, k = .slice a l c := by
        rcases open_slice hi5 hy5 with ⟨hcs, _⟩ | ⟨a', len', cap', m, n, D, Pl, hcs, _⟩
        · simp only [List.cons.injEq, and_true] at hcs; exact ⟨_, _, _, hcs⟩
        · simp only [List.cons.injEq, and_true] at hcs; exact ⟨_, _, _, hcs⟩
      obtain ⟨ks, hk1, hk2, hk3, hk4⟩ := open_boolRow hi5 hq5 hcq5 hy5
      subst hk1
      rcases ChangeShapes.open_ints hi3 hq hcq hy3 with ⟨hcs, _⟩ | ⟨y, l, c, zs, hcs, _, hl, hm, hz, _, hcell, hwz⟩
      · simp only [List.drop_succ_cons, List.drop_zero, List.take_succ_cons, List.take_zero, List.cons.injEq, and_true] at hcs
        subst hcs
        exact ⟨⟨n0, n1, n2, none, 0, [], n4, ak, ck, ks⟩, rfl, Nat.le_refl _, by simp, hk2, hk3, wf_i64 w1, wf_i64 w2, wf_i64 w4, fun L => Rd.nil, hk4⟩
      · simp only [List.drop_succ_cons, List.drop_zero, List.take_succ_cons, List.take_zero, List.cons.injEq, and_true] at hcs
        subst hcs
        obtain ⟨xs, h1, h2, h3, h4⟩ := row_bytes (W := W) (a := some y) (len := l) (cap := c) (zs := zs) (.inr ⟨y, rfl, hl, hm, by simpa using hz, hcell, hwz⟩)
        subst h1
        exact ⟨⟨n0, n1, n2, some y, c, xs, n4, ak, ck, ks⟩, rfl, h2, h3, hk2, hk3, wf_i64 w1, wf_i64 w2, wf_i64 w4, h4, hk4⟩) h
  exact ⟨ls, h1, h2, h3, h4, fun o ho => (h5 o ho).1⟩
theorem cellW {W0 : World} {L : List Seg} {p o : Nat} {ls : List WOp} (r : ∀ L, Rd W0 L (some ⟨p, o, none⟩) (ls.flatMap wopC)) {i : Nat} (h : i < ls.length) (w : World) (hm : Mem W0 w L) : ∀ j v, (wopC ls[i])[j]? = some v → w.cell? ⟨p, o + (i : Int).toNat * 6 + j, none⟩ = some v :=
  Rd.chunk_at r (fun _ _ => rfl) h w hm
theorem Mem.k36 {W0 w : World} {k s bo b4 b5 ws : Seg} {x : Nat × SObj} {R : List Seg} (h : Mem W0 w (k :: s :: bo :: b4 :: b5 :: (x :: ws) :: R)) : Mem W0 w (ws :: k :: [x] :: s :: bo :: b4 :: b5 :: R) := by
  have h1 : Mem W0 w ((x :: ws) :: k :: s :: bo :: b4 :: b5 :: R) := Mem.rot [k, s, bo, b4, b5] [x :: ws] h
  have h2 : Mem W0 w (ws :: [x] :: k :: s :: bo :: b4 :: b5 :: R) := Mem.split1 h1
  exact Mem.rot [[x]] [ws, k] (C := s :: bo :: b4 :: b5 :: R) (Mem.rot [ws] [[x]] (C := k :: s :: bo :: b4 :: b5 :: R) h2 |> fun h => h.perm (by exact List.Perm.cons _ (List.Perm.refl _)))
theorem Mem.k37 {W0 w : World} {s bo b4 b5 ws : Seg} {x : Nat × SObj} {R : List Seg} (h : Mem W0 w (ws :: [x] :: s :: bo :: b4 :: b5 :: R)) : Mem W0 w (s :: bo :: b4 :: b5 :: (x :: ws) :: R) :=
  Mem.rot [x :: ws] [s, bo, b4, b5] (Mem.join1 h)
theorem Mem.kk {W0 w : World} {s bo b4 b5 ws : Seg} {x : Nat × SObj} {R : List Seg} (h : Mem W0 w (s :: bo :: b4 :: b5 :: (x :: ws) :: R)) : Mem W0 w [[x], s] := by
  have h1 : Mem W0 w ((x :: ws) :: s :: bo :: b4 :: b5 :: R) := Mem.rot [s, bo, b4, b5] [x :: ws] h
  exact Mem.keepN [[x], s] (Mem.split1 h1).tail
theorem walall_walk (W0 : World) (a0 : Option Addr) (len0 cap0 : Nat) (ops : List WOp) (hin : WOps W0 a0 len0 cap0 ops) :
    FnS Try.prog W0 3 #[.slice a0 len0 cap0] [] (fun e _ => e = .returned (.bool true)) := by
  obtain ⟨hok0, hlv0, hln0⟩ := newW
  obtain ⟨rfl, hlc, hcm, r0, hwf⟩ := hin
  have hmx : maxLen ≤ 9223372036854775807 := by decide
  refine FnS.of (args := [.slice a0 ops.length cap0]) Try.func3 rfl rfl ?_
  refine C.seq ?_
  refine C.region ?_
  refine G.assignB rfl trivial rfl rfl rfl ?_
  refine G.nil ?_
  refine C.seq ?_
  refine C.region ?_
  refine G.call E4 rfl rfl trivial rfl rfl (beganW_spec W0 _) rfl ?_
  rintro e L2 ⟨rfl, rfl⟩
  refine G.assignB rfl trivial rfl rfl rfl ?_
  refine G.nil ?_
  refine C.seq ?_
  refine C.seq ?_
  refine C.region ?_
  refine G.moveB rfl trivial rfl rfl rfl ?_
  first | refine G.notD rfl trivial rfl rfl rfl ?_ | refine G.not rfl trivial rfl rfl rfl ?_
  refine G.fix (d := 18) (v := .bool false) rfl ?_
  refine G.nil ?_
  refine C.condF rfl ?_
  refine C.skip ?_
  refine C.seq ?_
  refine C.region ?_
  refine G.call E5 rfl rfl trivial rfl rfl (new_spec W0 _ 1410) rfl ?_
  rintro e L2 ⟨bd, bl, rfl, rfl⟩
  rw [show clampN 1410 = 1410 from rfl]
  generalize newDv 1410 = d0 at *
  refine G.allocC (cs := [.pointer none]) rfl trivial rfl rfl I24 rfl ?_
  intro b4
  refine G.store (v := .pointer _) (by first | exact .here | exact .next .here | exact .next (.next .here) | exact .next (.next (.next .here)) | exact .next (.next (.next (.next .here))) | exact .next (.next (.next (.next (.next .here)))) | exact .next (.next (.next (.next (.next (.next .here))))) | exact .next (.next (.next (.next (.next (.next (.next .here)))))) | exact .in1 | exact .next .in1 | exact .next (.next .in1) | exact .next (.next (.next .in1)) | exact .next (.next (.next (.next .in1))) | exact .in2 | exact .next .in2 | exact .next (.next .in2) | exact .next (.next (.next .in2)) | exact .next (.next (.next (.next .in2))) | exact .app .here | exact .app (.next .here) | exact .app (.next (.next .here)) | exact .app (.next (.next (.next .here))) | exact .app (.next (.next (.next (.next .here)))) | exact .app (.next (.next (.next (.next (.next .here))))) | exact .app (.next (.next (.next (.next (.next (.next .here)))))) | exact .app (.next (.next (.next (.next (.next (.next (.next .here))))))) | exact .app .in1 | exact .app .in2 | exact .app (.next .in1) | exact .next (.app .in1) | exact .next (.next (.app .in1)) | exact .next (.app .here) | exact .next (.next (.app .here)) | exact .next (.next (.next (.app .here))) | exact .next (.next (.next (.next (.app .here))))) rfl trivial rfl I24 rfl rfl rfl (by first | decide | (simp; done) | (simp; omega)) _ (by first | (simp only [List.set_cons_succ, List.set_cons_zero]; done) | (simp only [List.set_cons_succ, List.set_cons_zero]; exact rfl) | exact rfl) ?_
  refine G.nil ?_
  refine C.seq ?_
  refine C.region ?_
  refine G.loadAt (by first | exact .here | exact .next .here | exact .next (.next .here) | exact .next (.next (.next .here)) | exact .next (.next (.next (.next .here))) | exact .next (.next (.next (.next (.next .here)))) | exact .next (.next (.next (.next (.next (.next .here))))) | exact .next (.next (.next (.next (.next (.next (.next .here)))))) | exact .in1 | exact .next .in1 | exact .next (.next .in1) | exact .next (.next (.next .in1)) | exact .next (.next (.next (.next .in1))) | exact .in2 | exact .next .in2 | exact .next (.next .in2) | exact .next (.next (.next .in2)) | exact .next (.next (.next (.next .in2))) | exact .app .here | exact .app (.next .here) | exact .app (.next (.next .here)) | exact .app (.next (.next (.next .here))) | exact .app (.next (.next (.next (.next .here)))) | exact .app (.next (.next (.next (.next (.next .here))))) | exact .app (.next (.next (.next (.next (.next (.next .here)))))) | exact .app (.next (.next (.next (.next (.next (.next (.next .here))))))) | exact .app .in1 | exact .app .in2 | exact .app (.next .in1) | exact .next (.app .in1) | exact .next (.next (.app .in1)) | exact .next (.app .here) | exact .next (.next (.app .here)) | exact .next (.next (.next (.app .here))) | exact .next (.next (.next (.next (.app .here))))) rfl trivial rfl rfl Try.underlying24 rfl rfl (by rfl) ?_
  refine G.call E6 rfl rfl trivial rfl rfl (wa_make W0 [_] _ bd bl d0 hok0 hlv0 hln0) rfl ?_
  rintro e L2 ⟨bg, bs, sg, sp, d1, rfl, hw1, rfl⟩
  refine G.moveU rfl trivial rfl rfl rfl ?_
  refine G.extractL rfl trivial rfl rfl rfl rfl ?_
  refine G.extractL rfl trivial rfl rfl rfl rfl ?_
  refine G.allocC (cs := [.pointer none]) rfl trivial rfl rfl I26 rfl ?_
  intro b5
  refine G.store (v := .pointer _) (by first | exact .here | exact .next .here | exact .next (.next .here) | exact .next (.next (.next .here)) | exact .next (.next (.next (.next .here))) | exact .next (.next (.next (.next (.next .here)))) | exact .next (.next (.next (.next (.next (.next .here))))) | exact .next (.next (.next (.next (.next (.next (.next .here)))))) | exact .in1 | exact .next .in1 | exact .next (.next .in1) | exact .next (.next (.next .in1)) | exact .next (.next (.next (.next .in1))) | exact .in2 | exact .next .in2 | exact .next (.next .in2) | exact .next (.next (.next .in2)) | exact .next (.next (.next (.next .in2))) | exact .app .here | exact .app (.next .here) | exact .app (.next (.next .here)) | exact .app (.next (.next (.next .here))) | exact .app (.next (.next (.next (.next .here)))) | exact .app (.next (.next (.next (.next (.next .here))))) | exact .app (.next (.next (.next (.next (.next (.next .here)))))) | exact .app (.next (.next (.next (.next (.next (.next (.next .here))))))) | exact .app .in1 | exact .app .in2 | exact .app (.next .in1) | exact .next (.app .in1) | exact .next (.next (.app .in1)) | exact .next (.app .here) | exact .next (.next (.app .here)) | exact .next (.next (.next (.app .here))) | exact .next (.next (.next (.next (.app .here))))) rfl trivial rfl I26 rfl rfl rfl (by first | decide | (simp; done) | (simp; omega)) _ (by first | (simp only [List.set_cons_succ, List.set_cons_zero]; done) | (simp only [List.set_cons_succ, List.set_cons_zero]; exact rfl) | exact rfl) ?_
  refine G.assignI rfl trivial rfl rfl rfl ?_
  refine G.nil ?_
  refine C.seq ?_
  refine C.seq ?_
  refine C.region ?_
  refine G.moveI rfl trivial rfl rfl rfl ?_
  refine G.bin rfl trivial rfl rfl rfl rfl rfl ?_
  refine G.nil ?_
  refine C.no rfl (by simp) ?_
  refine C.skip ?_
  refine C.seq ?_
  refine C.region ?_
  refine G.buildL rfl trivial rfl rfl Try.underlying33 I33 B33 rfl rfl ?_
  refine G.boxG rfl trivial rfl rfl rfl ?_
  intro bK
  refine G.less (fun _ h => Mem.rot [_, _, _, _, _] [_] h.perm2) ?_
  refine G.assignP rfl trivial rfl rfl rfl ?_
  refine G.nil ?_
  refine C.seq ?_
  refine C.seq ?_
  refine C.region ?_
  refine G.assignI rfl trivial rfl rfl rfl ?_
  refine G.nil ?_
  refine C.block ?_
  refine C.loop (fun m F D' L' => ∃ (i base T : Nat) (fs us : List (List UInt8)) (bg bs bd bl : Nat) (d : Dv) (sg sp sgK : Seg), i ≤ ops.length ∧ i ≤ 40 ∧ base + size fs + size us ≤ 70000 * i ∧ T ≤ 3 * i + 1 ∧ WA bg bs bd base fs us T d sg sp ∧ BkIs bK base (fs ++ us) (base + size fs) sgK ∧ m = ops.length - i ∧ F 8 = .int .i64 (i : Int) ∧ F 7 = ptr bK ∧ F 5 = ptr b5 ∧ F 4 = ptr b4 ∧ F 0 = .slice a0 ops.length cap0 ∧ D' = [] ∧ [(b4, .row [ptr bd] 24 1)] :: [(b5, .row [ptr bg] 26 1)] :: sgK :: sg :: sp :: devSeg bd bl d :: [] = L') ⟨_, ⟨0, 0, 1, [], [], bg, bs, bd, bl, d1, sg, sp, _, by omega, by omega, by simp [size_nil], by omega, hw1, ⟨_, [], OwnS.nil _ _, rfl⟩, rfl, rfl, rfl, rfl, rfl, rfl, rfl, rfl⟩⟩ ?_
  rintro m F D' L' ⟨i, base, T, fs, us, bg, bs, bd, bl, d, sg, sp, sgK, hi, hi40, hsz, hT, hw, hbk, rfl, h8, h7, h5, h4, h0', rfl, rfl⟩
  refine C.fix (d := 8) h8 ?_
  refine C.fix (d := 7) h7 ?_
  refine C.fix (d := 5) h5 ?_
  refine C.fix (d := 4) h4 ?_
  refine C.fix (d := 0) h0' ?_
  refine C.seq ?_
  refine C.seq ?_
  refine C.region ?_
  refine G.moveI rfl trivial rfl rfl rfl ?_
  refine G.moveS rfl trivial rfl rfl rfl ?_
  refine G.lenSlice rfl trivial rfl rfl Try.underlying22 rfl ?_
  refine G.bin rfl trivial rfl rfl rfl rfl rfl ?_
  refine G.moveB rfl trivial rfl rfl rfl ?_
  refine G.fork (t := 33) _ rfl ?_ ?_
  · intro hg33
    refine G.moveI rfl ⟨_, rfl, rfl, rfl⟩ rfl rfl rfl ?_
    refine G.bin rfl ⟨_, rfl, rfl, rfl⟩ rfl rfl rfl rfl rfl ?_
    first | refine G.pickT rfl trivial rfl rfl rfl rfl ?_ | refine G.pickF rfl trivial rfl rfl rfl rfl ?_
    refine G.nil ?_
    refine C.cond _ rfl ?_ ?_
    · intro hc2
      have hlt : i < ops.length := by omega
      obtain ⟨p0, q0, rfl, _⟩ := (r0 []).some_ (by rw [chunk_length (k := 6) (fun _ _ => rfl)]; omega)
      have hroom := hw.room
      have hrecs := hw.recs
      have hRs : size (fs ++ us) = size fs + size us := size_append fs us
      have hRl := length_le_size (fs ++ us)
      have hRl2 : (fs ++ us).length = fs.length + us.length := List.length_append
      refine C.skip ?_
      refine C.seq ?_
      refine C.block ?_
      refine C.seq ?_
      refine C.region ?_
      refine G.moveS rfl trivial rfl rfl rfl ?_
      refine G.moveI rfl trivial rfl rfl rfl ?_
      refine G.indexAddr rfl trivial rfl rfl Try.underlying22 I37 rfl rfl (by omega) ?_
      obtain ⟨hbc, hbm, hkc, hkm, hto, hbig, hfu, hbr, hkr⟩ := hwf _ (List.getElem_mem hlt)
      refine G.loadAgg (wopC ops[i]) rfl trivial rfl rfl Try.underlying37 rfl I37 rfl rfl (cellW r0 hlt) ?_
      generalize ops[i] = op at hbc hbm hkc hkm hto hbig hfu hbr hkr ⊢
      refine G.allocC (cs := [.int .i64 0, .int .i64 0, .int .i64 0, .slice none 0 0, .int .i64 0, .slice none 0 0]) rfl trivial rfl rfl I37 rfl ?_
      intro bo
      refine G.storeS (vs := wopC op) .here rfl trivial rfl I37 rfl rfl rfl (wopC_ok op) (by simp) (wopC op) rfl ?_
      refine G.nil ?_
      refine C.seq ?_
      refine C.region ?_
      refine G.fieldAddr rfl trivial rfl rfl Try.underlying37 rfl I34 rfl rfl ?_
      refine G.loadAt (by first | exact .here | exact .next .here | exact .next (.next .here) | exact .next (.next (.next .here)) | exact .next (.next (.next (.next .here))) | exact .next (.next (.next (.next (.next .here)))) | exact .next (.next (.next (.next (.next (.next .here))))) | exact .next (.next (.next (.next (.next (.next (.next .here)))))) | exact .in1 | exact .next .in1 | exact .next (.next .in1) | exact .next (.next (.next .in1)) | exact .next (.next (.next (.next .in1))) | exact .in2 | exact .next .in2 | exact .next (.next .in2) | exact .next (.next (.next .in2)) | exact .next (.next (.next (.next .in2))) | exact .app .here | exact .app (.next .here) | exact .app (.next (.next .here)) | exact .app (.next (.next (.next .here))) | exact .app (.next (.next (.next (.next .here)))) | exact .app (.next (.next (.next (.next (.next .here))))) | exact .app (.next (.next (.next (.next (.next (.next .here)))))) | exact .app (.next (.next (.next (.next (.next (.next (.next .here))))))) | exact .app .in1 | exact .app .in2 | exact .app (.next .in1) | exact .next (.app .in1) | exact .next (.next (.app .in1)) | exact .next (.app .here) | exact .next (.next (.app .here)) | exact .next (.next (.next (.app .here))) | exact .next (.next (.next (.next (.app .here))))) rfl trivial rfl rfl Try.underlying34 rfl rfl (by rfl) ?_
      refine G.call E7 rfl rfl trivial rfl rfl (short_spec W0 _ op.ba op.bc op.bs 90 rfl hbc) rfl ?_
      rintro e L2 ⟨rfl, rfl⟩
      refine G.appendNil rfl trivial rfl rfl Try.underlying34 Try.underlying34 I5 rfl (by decide) rfl (by decide) (vs := bytesV (op.bs.take 90)) (by rw [← bytesV_take]; exact (hbr _).take) (by simp) bytesV_ok (by rw [List.length_take]; omega) ?_
      intro v46 s46 hv46
      obtain ⟨a46, c46, rfl, hr46⟩ := hv46.form
      refine G.assignS rfl trivial rfl rfl rfl ?_
      refine G.nil ?_
      refine C.cut (fun F D' L' => ∃ (b : List UInt8) (a10 : Option Addr) (c10 : Nat) (s10 : Seg), OwnS (.slice a10 b.length c10) b.length (bytesV b) 5 1 s10 ∧ b.length ≤ 70000 ∧ F 10 = .slice a10 b.length c10 ∧ F 9 = ptr bo ∧ F 8 = .int .i64 (i : Int) ∧ F 7 = ptr bK ∧ F 5 = ptr b5 ∧ F 4 = ptr b4 ∧ F 0 = .slice (some ⟨p0, q0, none⟩) ops.length cap0 ∧ D' = [] ∧ s10 :: [(bo, .row (wopC op) 37 6)] :: [(b4, .row [ptr bd] 24 1)] :: [(b5, .row [ptr bg] 26 1)] :: sgK :: sg :: sp :: devSeg bd bl d :: [] = L') ?_ ?_
      ·
        refine C.seq ?_
        refine C.region ?_
        refine G.fieldAddr rfl trivial rfl rfl Try.underlying37 rfl I3 rfl rfl ?_
        refine G.loadAt (by first | exact .here | exact .next .here | exact .next (.next .here) | exact .next (.next (.next .here)) | exact .next (.next (.next (.next .here))) | exact .next (.next (.next (.next (.next .here)))) | exact .next (.next (.next (.next (.next (.next .here))))) | exact .next (.next (.next (.next (.next (.next (.next .here)))))) | exact .in1 | exact .next .in1 | exact .next (.next .in1) | exact .next (.next (.next .in1)) | exact .next (.next (.next (.next .in1))) | exact .in2 | exact .next .in2 | exact .next (.next .in2) | exact .next (.next (.next .in2)) | exact .next (.next (.next (.next .in2))) | exact .app .here | exact .app (.next .here) | exact .app (.next (.next .here)) | exact .app (.next (.next (.next .here))) | exact .app (.next (.next (.next (.next .here)))) | exact .app (.next (.next (.next (.next (.next .here))))) | exact .app (.next (.next (.next (.next (.next (.next .here)))))) | exact .app (.next (.next (.next (.next (.next (.next (.next .here))))))) | exact .app .in1 | exact .app .in2 | exact .app (.next .in1) | exact .next (.app .in1) | exact .next (.next (.app .in1)) | exact .next (.app .here) | exact .next (.next (.app .here)) | exact .next (.next (.next (.app .here))) | exact .next (.next (.next (.next (.app .here))))) rfl trivial rfl rfl Try.underlying3 rfl rfl (by rfl) ?_
        refine G.bin rfl trivial rfl rfl rfl rfl rfl ?_
        refine G.nil ?_
        refine C.cond _ rfl ?_ ?_
        · intro hc3
          refine C.region ?_
          refine G.fieldAddr rfl trivial rfl rfl Try.underlying37 rfl I3 rfl rfl ?_
          refine G.loadAt (by first | exact .here | exact .next .here | exact .next (.next .here) | exact .next (.next (.next .here)) | exact .next (.next (.next (.next .here))) | exact .next (.next (.next (.next (.next .here)))) | exact .next (.next (.next (.next (.next (.next .here))))) | exact .next (.next (.next (.next (.next (.next (.next .here)))))) | exact .in1 | exact .next .in1 | exact .next (.next .in1) | exact .next (.next (.next .in1)) | exact .next (.next (.next (.next .in1))) | exact .in2 | exact .next .in2 | exact .next (.next .in2) | exact .next (.next (.next .in2)) | exact .next (.next (.next (.next .in2))) | exact .app .here | exact .app (.next .here) | exact .app (.next (.next .here)) | exact .app (.next (.next (.next .here))) | exact .app (.next (.next (.next (.next .here)))) | exact .app (.next (.next (.next (.next (.next .here))))) | exact .app (.next (.next (.next (.next (.next (.next .here)))))) | exact .app (.next (.next (.next (.next (.next (.next (.next .here))))))) | exact .app .in1 | exact .app .in2 | exact .app (.next .in1) | exact .next (.app .in1) | exact .next (.next (.app .in1)) | exact .next (.app .here) | exact .next (.next (.app .here)) | exact .next (.next (.next (.app .here))) | exact .next (.next (.next (.next (.app .here))))) rfl trivial rfl rfl Try.underlying3 rfl rfl (by rfl) ?_
          refine G.min2 rfl trivial rfl rfl rfl rfl ?_
          refine G.max2 rfl trivial rfl rfl rfl rfl ?_
          obtain ⟨nb, hnb⟩ : ∃ nb : Nat, (if (0 : Int) < (if 70000 < op.big then 70000 else op.big) then (if 70000 < op.big then 70000 else op.big) else 0 : Int) = (nb : Int) ∧ nb ≤ 70000 := ⟨(if (0 : Int) < (if 70000 < op.big then 70000 else op.big) then (if 70000 < op.big then 70000 else op.big) else 0 : Int).toNat, by split <;> omega, by split <;> (try split) <;> omega⟩
          refine G.fix (d := 53) (v := .int .i64 (nb : Int)) (by show Value.int .i64 _ = _; rw [← hnb.1]) ?_
          refine G.makeBytes (l := nb) (c := nb) rfl trivial rfl rfl Try.underlying34 I5 rfl rfl (by have := hnb.2; omega) ?_
          intro b54
          refine G.less (fun _ h => h.skip1) ?_
          refine G.assignS rfl trivial rfl rfl rfl ?_
          refine G.nil ?_
          have hnl : (List.replicate nb (0 : UInt8)).length = nb := List.length_replicate
          exact ⟨List.replicate nb 0, _, nb, _, OwnS.mk (by rw [bytesV_length, hnl]; omega) (Nat.le_of_eq (by omega)) (by omega), by rw [hnl]; exact hnb.2, by rw [hnl]; rfl, rfl, rfl, rfl, rfl, rfl, rfl, rfl, rfl⟩
        · intro hc3
          refine C.skip ?_
          exact ⟨op.bs.take 90, a46, c46, s46, hv46, by rw [List.length_take]; omega, rfl, rfl, rfl, rfl, rfl, rfl, rfl, rfl, rfl⟩
      ·
        rintro F D' L' ⟨b, a10, c10, s10, ho10, hb70, h10, h9, h8, h7, h5, h4, h0', rfl, rfl⟩
        refine C.fix (d := 10) h10 ?_
        refine C.fix (d := 9) h9 ?_
        refine C.fix (d := 8) h8 ?_
        refine C.fix (d := 7) h7 ?_
        refine C.fix (d := 5) h5 ?_
        refine C.fix (d := 4) h4 ?_
        refine C.fix (d := 0) h0' ?_
        obtain ⟨aq, cq, hq10, hr10⟩ := ho10.form
        cases hq10
        refine C.seq ?_
        refine C.seq ?_
        refine C.region ?_
        refine G.fieldAddr rfl trivial rfl rfl Try.underlying37 rfl I3 rfl rfl ?_
        refine G.loadAt (by first | exact .here | exact .next .here | exact .next (.next .here) | exact .next (.next (.next .here)) | exact .next (.next (.next (.next .here))) | exact .next (.next (.next (.next (.next .here)))) | exact .next (.next (.next (.next (.next (.next .here))))) | exact .next (.next (.next (.next (.next (.next (.next .here)))))) | exact .in1 | exact .next .in1 | exact .next (.next .in1) | exact .next (.next (.next .in1)) | exact .next (.next (.next (.next .in1))) | exact .in2 | exact .next .in2 | exact .next (.next .in2) | exact .next (.next (.next .in2)) | exact .next (.next (.next (.next .in2))) | exact .app .here | exact .app (.next .here) | exact .app (.next (.next .here)) | exact .app (.next (.next (.next .here))) | exact .app (.next (.next (.next (.next .here)))) | exact .app (.next (.next (.next (.next (.next .here))))) | exact .app (.next (.next (.next (.next (.next (.next .here)))))) | exact .app (.next (.next (.next (.next (.next (.next (.next .here))))))) | exact .app .in1 | exact .app .in2 | exact .app (.next .in1) | exact .next (.app .in1) | exact .next (.next (.app .in1)) | exact .next (.app .here) | exact .next (.next (.app .here)) | exact .next (.next (.next (.app .here))) | exact .next (.next (.next (.next (.app .here))))) rfl trivial rfl rfl Try.underlying3 rfl rfl (by rfl) ?_
        refine G.bin rfl trivial rfl rfl rfl rfl rfl ?_
        refine G.nil ?_
        refine C.cond _ rfl ?_ ?_
        · intro hc4
          refine C.seq ?_
          refine C.seq ?_
          refine C.region ?_
          refine G.moveP rfl trivial rfl rfl rfl ?_
          refine G.loadAgg (wopC op) rfl trivial rfl rfl Try.underlying37 rfl I37 rfl rfl (fun w hm => agg_of_row hm (.next .here) (fun j v hj => by rw [Nat.zero_add]; exact hj)) ?_
          refine G.less (fun _ h => Mem.rot [_, _] [_, _, _, _, _, _] h) ?_
          refine G.call E8 rfl rfl trivial rfl rfl (crashW_spec W0 _ b4 b5 bK bg bs bd bl base T fs us d sg sp sgK op hkc hfu.2 hto hkr hw hbk (by omega) (by omega)) rfl ?_
          rintro e L2 ⟨bg2, bs2, bd2, bl2, base2, fs2, d2, sg2, sp2, sgK2, rfl, hw2, hbk2, hle2, rfl⟩
          refine G.less (fun _ h => Mem.rot [_, _, _, _, _, _] [_, _] h) ?_
          first | refine G.notD rfl trivial rfl rfl rfl ?_ | refine G.not rfl trivial rfl rfl rfl ?_
          refine G.fix (d := 61) (v := .bool false) rfl ?_
          refine G.nil ?_
          refine C.condF rfl ?_
          refine C.skip ?_
          refine C.exit ?_
          refine C.region ?_
          refine G.moveI rfl trivial rfl rfl rfl ?_
          refine G.add rfl trivial rfl rfl rfl rfl (by omega) ?_
          refine G.assignI rfl trivial rfl rfl rfl ?_
          refine G.less (fun _ h => Mem.dropN [_, _] h) ?_
          refine G.nil ?_
          exact ⟨ops.length - (i + 1), by omega, i + 1, base2, T + 2, fs2, [], bg2, bs2, bd2, bl2, d2, sg2, sp2, sgK2, by omega, by omega, by rw [size_nil]; omega, by omega, hw2, by rw [List.append_nil]; exact hbk2, rfl, rfl, rfl, rfl, rfl, rfl, rfl, rfl⟩
        · intro hc4
          refine C.skip ?_
          refine C.cut (fun F D' L' => ∃ (base T : Nat) (fs us : List (List UInt8)) (d : Dv) (sg sp sgK x y : Seg), base + size fs + size us ≤ 70000 * (i + 1) ∧ T ≤ 3 * i + 3 ∧ WA bg bs bd base fs us T d sg sp ∧ BkIs bK base (fs ++ us) (base + size fs) sgK ∧ F 8 = .int .i64 (i : Int) ∧ F 7 = ptr bK ∧ F 5 = ptr b5 ∧ F 4 = ptr b4 ∧ F 0 = .slice (some ⟨p0, q0, none⟩) ops.length cap0 ∧ D' = [] ∧ x :: y :: [(b4, .row [ptr bd] 24 1)] :: [(b5, .row [ptr bg] 26 1)] :: sgK :: sg :: sp :: devSeg bd bl d :: [] = L') ?_ ?_
          ·
            refine C.seq ?_
            refine C.region ?_
            refine G.fieldAddr rfl trivial rfl rfl Try.underlying37 rfl I3 rfl rfl ?_
            refine G.loadAt (by first | exact .here | exact .next .here | exact .next (.next .here) | exact .next (.next (.next .here)) | exact .next (.next (.next (.next .here))) | exact .next (.next (.next (.next (.next .here)))) | exact .next (.next (.next (.next (.next (.next .here))))) | exact .next (.next (.next (.next (.next (.next (.next .here)))))) | exact .in1 | exact .next .in1 | exact .next (.next .in1) | exact .next (.next (.next .in1)) | exact .next (.next (.next (.next .in1))) | exact .in2 | exact .next .in2 | exact .next (.next .in2) | exact .next (.next (.next .in2)) | exact .next (.next (.next (.next .in2))) | exact .app .here | exact .app (.next .here) | exact .app (.next (.next .here)) | exact .app (.next (.next (.next .here))) | exact .app (.next (.next (.next (.next .here)))) | exact .app (.next (.next (.next (.next (.next .here))))) | exact .app (.next (.next (.next (.next (.next (.next .here)))))) | exact .app (.next (.next (.next (.next (.next (.next (.next .here))))))) | exact .app .in1 | exact .app .in2 | exact .app (.next .in1) | exact .next (.app .in1) | exact .next (.next (.app .in1)) | exact .next (.app .here) | exact .next (.next (.app .here)) | exact .next (.next (.next (.app .here))) | exact .next (.next (.next (.next (.app .here))))) rfl trivial rfl rfl Try.underlying3 rfl rfl (by rfl) ?_
            refine G.nil ?_
            refine C.block ?_
            refine C.cut (fun F D' L' => F 82 = .bool (decide (op.kd = 0 ∨ op.kd = 4)) ∧ F 63 = .int .i64 op.kd ∧ F 10 = .slice a10 b.length c10 ∧ F 9 = ptr bo ∧ F 8 = .int .i64 (i : Int) ∧ F 7 = ptr bK ∧ F 5 = ptr b5 ∧ F 4 = ptr b4 ∧ F 0 = .slice (some ⟨p0, q0, none⟩) ops.length cap0 ∧ D' = [] ∧ s10 :: [(bo, .row (wopC op) 37 6)] :: [(b4, .row [ptr bd] 24 1)] :: [(b5, .row [ptr bg] 26 1)] :: sgK :: sg :: sp :: devSeg bd bl d :: [] = L') ?_ ?_
            ·
              refine C.seq ?_
              refine C.region ?_
              refine G.bin rfl trivial rfl rfl rfl rfl rfl ?_
              refine G.assignB rfl trivial rfl rfl rfl ?_
              refine G.nil ?_
              refine C.cond _ rfl ?_ ?_
              · intro hc6
                refine C.skip ?_
                exact ⟨by show Value.bool (decide (op.kd = 0)) = _; rw [decide_eq_true hc6, decide_eq_true (Or.inl hc6)], rfl, rfl, rfl, rfl, rfl, rfl, rfl, rfl, rfl, rfl⟩
              · intro hc6
                refine C.region ?_
                refine G.bin rfl trivial rfl rfl rfl rfl rfl ?_
                refine G.assignB rfl trivial rfl rfl rfl ?_
                refine G.nil ?_
                exact ⟨by show Value.bool (decide (op.kd = 4)) = _; congr 1; rw [decide_eq_decide]; exact ⟨.inr, fun h => h.resolve_left hc6⟩, rfl, rfl, rfl, rfl, rfl, rfl, rfl, rfl, rfl, rfl⟩
            ·
              rintro F D' L' ⟨h82, h63, h10, h9, h8, h7, h5, h4, h0', rfl, rfl⟩
              refine C.fix (d := 82) h82 ?_
              refine C.fix (d := 63) h63 ?_
              refine C.fix (d := 10) h10 ?_
              refine C.fix (d := 9) h9 ?_
              refine C.fix (d := 8) h8 ?_
              refine C.fix (d := 7) h7 ?_
              refine C.fix (d := 5) h5 ?_
              refine C.fix (d := 4) h4 ?_
              refine C.fix (d := 0) h0' ?_
              refine C.cond _ rfl ?_ ?_
              · intro hc7
                have hbk0 := hbk
                obtain ⟨vK, wsK, hvK, rfl⟩ := hbk
                obtain ⟨aK, cK, rfl, hrK⟩ := hvK.form
                refine C.seq ?_
                refine C.region ?_
                refine G.assignI rfl trivial rfl rfl rfl ?_
                refine G.nil ?_
                refine C.seq ?_
                refine C.seq ?_
                refine C.region ?_
                refine G.moveS rfl trivial rfl rfl rfl ?_
                refine G.lenSlice rfl trivial rfl rfl Try.underlying34 rfl ?_
                refine G.bin rfl trivial rfl rfl rfl rfl rfl ?_
                refine G.moveB rfl trivial rfl rfl rfl ?_
                refine G.fork (t := 88) _ rfl ?_ ?_
                · intro hg88
                  refine G.skip rfl rfl rfl rfl rfl rfl ?_
                  refine G.skip rfl rfl rfl rfl rfl rfl ?_
                  refine G.skip rfl rfl rfl rfl rfl rfl ?_
                  first | refine G.pickT rfl trivial rfl rfl rfl rfl ?_ | refine G.pickF rfl trivial rfl rfl rfl rfl ?_
                  refine G.nil ?_
                  refine C.condT rfl ?_
                  refine C.region ?_
                  refine G.assignI rfl trivial rfl rfl rfl ?_
                  refine G.nil ?_
                  refine C.seq ?_
                  refine C.region ?_
                  refine G.loadAt (by first | exact .here | exact .next .here | exact .next (.next .here) | exact .next (.next (.next .here)) | exact .next (.next (.next (.next .here))) | exact .next (.next (.next (.next (.next .here)))) | exact .next (.next (.next (.next (.next (.next .here))))) | exact .next (.next (.next (.next (.next (.next (.next .here)))))) | exact .in1 | exact .next .in1 | exact .next (.next .in1) | exact .next (.next (.next .in1)) | exact .next (.next (.next (.next .in1))) | exact .in2 | exact .next .in2 | exact .next (.next .in2) | exact .next (.next (.next .in2)) | exact .next (.next (.next (.next .in2))) | exact .app .here | exact .app (.next .here) | exact .app (.next (.next .here)) | exact .app (.next (.next (.next .here))) | exact .app (.next (.next (.next (.next .here)))) | exact .app (.next (.next (.next (.next (.next .here))))) | exact .app (.next (.next (.next (.next (.next (.next .here)))))) | exact .app (.next (.next (.next (.next (.next (.next (.next .here))))))) | exact .app .in1 | exact .app .in2 | exact .app (.next .in1) | exact .next (.app .in1) | exact .next (.next (.app .in1)) | exact .next (.app .here) | exact .next (.next (.app .here)) | exact .next (.next (.next (.app .here))) | exact .next (.next (.next (.next (.app .here))))) rfl trivial rfl rfl Try.underlying26 rfl rfl (by rfl) ?_
                  refine G.moveS rfl trivial rfl rfl rfl ?_
                  refine G.lenSlice rfl trivial rfl rfl Try.underlying34 rfl ?_
                  refine G.call E10 rfl rfl trivial rfl rfl (wa_fits W0 [_, _, _, _, _] _ bg bs bd base T fs us d sg sp hw (by omega) b.length (by omega)) rfl ?_
                  rintro e L2 ⟨rfl, rfl⟩
                  refine G.assignB rfl trivial rfl rfl rfl ?_
                  refine G.nil ?_
                  refine C.seq ?_
                  refine C.region ?_
                  refine G.loadAt (by first | exact .here | exact .next .here | exact .next (.next .here) | exact .next (.next (.next .here)) | exact .next (.next (.next (.next .here))) | exact .next (.next (.next (.next (.next .here)))) | exact .next (.next (.next (.next (.next (.next .here))))) | exact .next (.next (.next (.next (.next (.next (.next .here)))))) | exact .in1 | exact .next .in1 | exact .next (.next .in1) | exact .next (.next (.next .in1)) | exact .next (.next (.next (.next .in1))) | exact .in2 | exact .next .in2 | exact .next (.next .in2) | exact .next (.next (.next .in2)) | exact .next (.next (.next (.next .in2))) | exact .app .here | exact .app (.next .here) | exact .app (.next (.next .here)) | exact .app (.next (.next (.next .here))) | exact .app (.next (.next (.next (.next .here)))) | exact .app (.next (.next (.next (.next (.next .here))))) | exact .app (.next (.next (.next (.next (.next (.next .here)))))) | exact .app (.next (.next (.next (.next (.next (.next (.next .here))))))) | exact .app .in1 | exact .app .in2 | exact .app (.next .in1) | exact .next (.app .in1) | exact .next (.next (.app .in1)) | exact .next (.app .here) | exact .next (.next (.app .here)) | exact .next (.next (.next (.app .here))) | exact .next (.next (.next (.next (.app .here))))) rfl trivial rfl rfl Try.underlying26 rfl rfl (by rfl) ?_
                  refine G.moveS rfl trivial rfl rfl rfl ?_
                  refine G.call E11 rfl rfl trivial rfl rfl (wa_form W0 [_, _, _, _, _] _ bg bs bd base T fs us d sg sp hw a10 b.length c10 (by omega)) rfl ?_
                  rintro e L2 ⟨rfl, rfl⟩
                  refine G.moveU rfl trivial rfl rfl rfl ?_
                  refine G.extractL rfl trivial rfl rfl rfl rfl ?_
                  refine G.extractL rfl trivial rfl rfl rfl rfl ?_
                  refine G.assignI rfl trivial rfl rfl rfl ?_
                  refine G.assignI rfl trivial rfl rfl rfl ?_
                  refine G.nil ?_
                  refine C.seq ?_
                  refine C.seq ?_
                  refine C.region ?_
                  refine G.moveI rfl trivial rfl rfl rfl ?_
                  refine G.moveI rfl trivial rfl rfl rfl ?_
                  refine G.bin rfl trivial rfl rfl rfl rfl rfl ?_
                  refine G.moveB rfl trivial rfl rfl rfl ?_
                  refine G.no (t := 118) rfl (by simp) ?_
                  refine G.moveI rfl ⟨_, rfl, rfl, rfl⟩ rfl rfl rfl ?_
                  refine G.bin rfl ⟨_, rfl, rfl, rfl⟩ rfl rfl rfl rfl rfl ?_
                  refine G.moveB rfl ⟨_, rfl, rfl, rfl⟩ rfl rfl rfl ?_
                  refine G.no (t := 121) rfl (by simp) ?_
                  refine G.skip rfl rfl rfl rfl rfl rfl ?_
                  refine G.skip rfl rfl rfl rfl rfl rfl ?_
                  refine G.skip rfl rfl rfl rfl rfl rfl ?_
                  refine G.skip rfl rfl rfl rfl rfl rfl ?_
                  first | refine G.pickT rfl ⟨_, rfl, rfl, rfl⟩ rfl rfl rfl rfl ?_ | refine G.pickF rfl ⟨_, rfl, rfl, rfl⟩ rfl rfl rfl rfl ?_
                  first | refine G.pickT rfl trivial rfl rfl rfl rfl ?_ | refine G.pickF rfl trivial rfl rfl rfl rfl ?_
                  refine G.fix (d := 127) (v := .bool false) rfl ?_
                  refine G.nil ?_
                  refine C.condF rfl ?_
                  refine C.skip ?_
                  refine C.seq ?_
                  refine C.region ?_
                  refine G.moveI rfl trivial rfl rfl rfl ?_
                  refine G.bin rfl trivial rfl rfl rfl rfl rfl ?_
                  refine G.nil ?_
                  refine C.no rfl (by simp) ?_
                  refine C.skip ?_
                  exact ⟨base, T, fs, us, d, sg, sp, _, _, _, by omega, by omega, hw, hbk0, rfl, rfl, rfl, rfl, rfl, rfl, rfl⟩
                · intro hg88
                  refine G.moveS rfl ⟨_, rfl, rfl, rfl⟩ rfl rfl rfl ?_
                  refine G.lenSlice rfl ⟨_, rfl, rfl, rfl⟩ rfl rfl Try.underlying34 rfl ?_
                  refine G.bin rfl ⟨_, rfl, rfl, rfl⟩ rfl rfl rfl rfl rfl ?_
                  first | refine G.pickT rfl trivial rfl rfl rfl rfl ?_ | refine G.pickF rfl trivial rfl rfl rfl rfl ?_
                  refine G.nil ?_
                  refine C.cond _ rfl ?_ ?_
                  · intro hc8
                    refine C.region ?_
                    refine G.assignI rfl trivial rfl rfl rfl ?_
                    refine G.nil ?_
                    refine C.seq ?_
                    refine C.region ?_
                    refine G.loadAt (by first | exact .here | exact .next .here | exact .next (.next .here) | exact .next (.next (.next .here)) | exact .next (.next (.next (.next .here))) | exact .next (.next (.next (.next (.next .here)))) | exact .next (.next (.next (.next (.next (.next .here))))) | exact .next (.next (.next (.next (.next (.next (.next .here)))))) | exact .in1 | exact .next .in1 | exact .next (.next .in1) | exact .next (.next (.next .in1)) | exact .next (.next (.next (.next .in1))) | exact .in2 | exact .next .in2 | exact .next (.next .in2) | exact .next (.next (.next .in2)) | exact .next (.next (.next (.next .in2))) | exact .app .here | exact .app (.next .here) | exact .app (.next (.next .here)) | exact .app (.next (.next (.next .here))) | exact .app (.next (.next (.next (.next .here)))) | exact .app (.next (.next (.next (.next (.next .here))))) | exact .app (.next (.next (.next (.next (.next (.next .here)))))) | exact .app (.next (.next (.next (.next (.next (.next (.next .here))))))) | exact .app .in1 | exact .app .in2 | exact .app (.next .in1) | exact .next (.app .in1) | exact .next (.next (.app .in1)) | exact .next (.app .here) | exact .next (.next (.app .here)) | exact .next (.next (.next (.app .here))) | exact .next (.next (.next (.next (.app .here))))) rfl trivial rfl rfl Try.underlying26 rfl rfl (by rfl) ?_
                    refine G.moveS rfl trivial rfl rfl rfl ?_
                    refine G.lenSlice rfl trivial rfl rfl Try.underlying34 rfl ?_
                    refine G.call E10 rfl rfl trivial rfl rfl (wa_fits W0 [_, _, _, _, _] _ bg bs bd base T fs us d sg sp hw (by omega) b.length (by omega)) rfl ?_
                    rintro e L2 ⟨rfl, rfl⟩
                    refine G.assignB rfl trivial rfl rfl rfl ?_
                    refine G.nil ?_
                    refine C.seq ?_
                    refine C.region ?_
                    refine G.loadAt (by first | exact .here | exact .next .here | exact .next (.next .here) | exact .next (.next (.next .here)) | exact .next (.next (.next (.next .here))) | exact .next (.next (.next (.next (.next .here)))) | exact .next (.next (.next (.next (.next (.next .here))))) | exact .next (.next (.next (.next (.next (.next (.next .here)))))) | exact .in1 | exact .next .in1 | exact .next (.next .in1) | exact .next (.next (.next .in1)) | exact .next (.next (.next (.next .in1))) | exact .in2 | exact .next .in2 | exact .next (.next .in2) | exact .next (.next (.next .in2)) | exact .next (.next (.next (.next .in2))) | exact .app .here | exact .app (.next .here) | exact .app (.next (.next .here)) | exact .app (.next (.next (.next .here))) | exact .app (.next (.next (.next (.next .here)))) | exact .app (.next (.next (.next (.next (.next .here))))) | exact .app (.next (.next (.next (.next (.next (.next .here)))))) | exact .app (.next (.next (.next (.next (.next (.next (.next .here))))))) | exact .app .in1 | exact .app .in2 | exact .app (.next .in1) | exact .next (.app .in1) | exact .next (.next (.app .in1)) | exact .next (.app .here) | exact .next (.next (.app .here)) | exact .next (.next (.next (.app .here))) | exact .next (.next (.next (.next (.app .here))))) rfl trivial rfl rfl Try.underlying26 rfl rfl (by rfl) ?_
                    refine G.moveS rfl trivial rfl rfl rfl ?_
                    refine G.call E11 rfl rfl trivial rfl rfl (wa_form W0 [_, _, _, _, _] _ bg bs bd base T fs us d sg sp hw a10 b.length c10 (by omega)) rfl ?_
                    rintro e L2 ⟨rfl, rfl⟩
                    refine G.moveU rfl trivial rfl rfl rfl ?_
                    refine G.extractL rfl trivial rfl rfl rfl rfl ?_
                    refine G.extractL rfl trivial rfl rfl rfl rfl ?_
                    refine G.assignI rfl trivial rfl rfl rfl ?_
                    refine G.assignI rfl trivial rfl rfl rfl ?_
                    refine G.nil ?_
                    refine C.seq ?_
                    refine C.seq ?_
                    refine C.region ?_
                    refine G.moveI rfl trivial rfl rfl rfl ?_
                    refine G.moveI rfl trivial rfl rfl rfl ?_
                    refine G.bin rfl trivial rfl rfl rfl rfl rfl ?_
                    refine G.moveB rfl trivial rfl rfl rfl ?_
                    refine G.no (t := 118) rfl (by simp) ?_
                    refine G.moveI rfl ⟨_, rfl, rfl, rfl⟩ rfl rfl rfl ?_
                    refine G.bin rfl ⟨_, rfl, rfl, rfl⟩ rfl rfl rfl rfl rfl ?_
                    refine G.moveB rfl ⟨_, rfl, rfl, rfl⟩ rfl rfl rfl ?_
                    refine G.no (t := 121) rfl (by simp) ?_
                    refine G.skip rfl rfl rfl rfl rfl rfl ?_
                    refine G.skip rfl rfl rfl rfl rfl rfl ?_
                    refine G.skip rfl rfl rfl rfl rfl rfl ?_
                    refine G.skip rfl rfl rfl rfl rfl rfl ?_
                    first | refine G.pickT rfl ⟨_, rfl, rfl, rfl⟩ rfl rfl rfl rfl ?_ | refine G.pickF rfl ⟨_, rfl, rfl, rfl⟩ rfl rfl rfl rfl ?_
                    first | refine G.pickT rfl trivial rfl rfl rfl rfl ?_ | refine G.pickF rfl trivial rfl rfl rfl rfl ?_
                    refine G.fix (d := 127) (v := .bool false) rfl ?_
                    refine G.nil ?_
                    refine C.condF rfl ?_
                    refine C.skip ?_
                    refine C.seq ?_
                    refine C.region ?_
                    refine G.moveI rfl trivial rfl rfl rfl ?_
                    refine G.bin rfl trivial rfl rfl rfl rfl rfl ?_
                    refine G.nil ?_
                    refine C.no rfl (by simp) ?_
                    refine C.skip ?_
                    exact ⟨base, T, fs, us, d, sg, sp, _, _, _, by omega, by omega, hw, hbk0, rfl, rfl, rfl, rfl, rfl, rfl, rfl⟩
                  · intro hc8
                    refine C.seq ?_
                    refine C.drawn mixed (_) [] (fun _ h => h) ?_
                    refine GA.pure (i := 0) (fun _ _ _ _ _ h => h) rfl (by kernel_rfl) trivial rfl rfl (Y.moveP rfl rfl) (#[true, false, false, false, false, false, false, false, false, false, false, false]) (by kernel_rfl) ?_
                    refine GA.pure (i := 2) (fun _ _ _ _ _ h => h) rfl (by kernel_rfl) trivial rfl rfl (Y.moveP rfl rfl) (#[true, false, true, false, false, false, false, false, false, false, false, false]) (by kernel_rfl) ?_
                    first | refine GA.pure (i := 3) (fun _ _ _ _ _ h => h) rfl (by kernel_rfl) trivial rfl rfl (Y.nilCheckP rfl rfl) (#[true, false, true, true, false, false, false, false, false, false, false, false]) (by kernel_rfl) ?_ | refine GA.pure (i := 3) (fun _ _ _ _ _ h => h) rfl (by kernel_rfl) trivial rfl rfl (Y.nilCheckF rfl rfl) (#[true, false, true, true, false, false, false, false, false, false, false, false]) (by kernel_rfl) ?_
                    refine GA.pure (i := 4) (fun _ _ _ _ _ h => h) rfl (by kernel_rfl) trivial rfl rfl (Y.fieldAddr rfl Try.underlying33 rfl I2 rfl rfl) (#[true, false, true, true, true, false, false, false, false, false, false, false]) (by kernel_rfl) ?_
                    refine GA.read (i := 5) (fun _ _ _ _ _ h => h) rfl (by kernel_rfl) (by kernel_rfl) trivial rfl rfl (Y.loadAt (v := .int .i64 (base : Int)) (.next (.next (.next (.next .here)))) rfl Try.underlying2 rfl rfl rfl) (#[true, false, true, true, true, true, false, false, false, false, false, false]) (by kernel_rfl) ?_
                    refine GA.pure (i := 7) (fun _ _ _ _ _ h => h) rfl (by kernel_rfl) trivial rfl rfl (Y.moveS rfl rfl) (#[true, false, true, true, true, true, false, true, false, false, false, false]) (by kernel_rfl) ?_
                    refine GA.pure (i := 8) (fun _ _ _ _ _ h => h) rfl (by kernel_rfl) trivial rfl rfl (Y.lenSlice rfl Try.underlying34 rfl) (#[true, false, true, true, true, true, false, true, true, false, false, false]) (by kernel_rfl) ?_
                    refine GA.one (i := 1) rfl (by kernel_rfl) (#[true, true, true, true, true, true, false, true, true, false, false, false]) (by kernel_rfl) ?_
                    refine G.call E9 rfl rfl trivial rfl rfl (kend_spec W0 [_, _, _, _] _ bK base (base + size fs) (fs ++ us) _ hbk0 (by omega) (by omega)) rfl ?_
                    rintro e L2 ⟨rfl, rfl⟩
                    refine G.nil ?_
                    refine ⟨fun _ _ h => h, ?_⟩
                    refine GA.pure (i := 6) (fun _ _ _ _ _ h => h) rfl (by kernel_rfl) trivial rfl rfl (Y.sub rfl rfl rfl (by omega)) (#[true, true, true, true, true, true, true, true, true, false, false, false]) (by kernel_rfl) ?_
                    refine GA.pure (i := 9) (fun _ _ _ _ _ h => h) rfl (by kernel_rfl) trivial rfl rfl (Y.add rfl rfl rfl (by omega)) (#[true, true, true, true, true, true, true, true, true, true, false, false]) (by kernel_rfl) ?_
                    refine GA.pure (i := 10) (fun _ _ _ _ _ h => h) rfl (by kernel_rfl) trivial rfl rfl (Y.add rfl rfl rfl (by omega)) (#[true, true, true, true, true, true, true, true, true, true, true, false]) (by kernel_rfl) ?_
                    refine GA.pure (i := 11) (fun _ _ _ _ _ h => h) rfl (by kernel_rfl) trivial rfl rfl (Y.bin rfl rfl rfl rfl) (#[true, true, true, true, true, true, true, true, true, true, true, true]) (by kernel_rfl) ?_
                    refine GA.done (by kernel_rfl) ?_
                    refine C.cond _ rfl ?_ ?_
                    · intro hc9
                      refine C.region ?_
                      refine G.assignI rfl trivial rfl rfl rfl ?_
                      refine G.nil ?_
                      refine C.seq ?_
                      refine C.region ?_
                      refine G.loadAt (by first | exact .here | exact .next .here | exact .next (.next .here) | exact .next (.next (.next .here)) | exact .next (.next (.next (.next .here))) | exact .next (.next (.next (.next (.next .here)))) | exact .next (.next (.next (.next (.next (.next .here))))) | exact .next (.next (.next (.next (.next (.next (.next .here)))))) | exact .in1 | exact .next .in1 | exact .next (.next .in1) | exact .next (.next (.next .in1)) | exact .next (.next (.next (.next .in1))) | exact .in2 | exact .next .in2 | exact .next (.next .in2) | exact .next (.next (.next .in2)) | exact .next (.next (.next (.next .in2))) | exact .app .here | exact .app (.next .here) | exact .app (.next (.next .here)) | exact .app (.next (.next (.next .here))) | exact .app (.next (.next (.next (.next .here)))) | exact .app (.next (.next (.next (.next (.next .here))))) | exact .app (.next (.next (.next (.next (.next (.next .here)))))) | exact .app (.next (.next (.next (.next (.next (.next (.next .here))))))) | exact .app .in1 | exact .app .in2 | exact .app (.next .in1) | exact .next (.app .in1) | exact .next (.next (.app .in1)) | exact .next (.app .here) | exact .next (.next (.app .here)) | exact .next (.next (.next (.app .here))) | exact .next (.next (.next (.next (.app .here))))) rfl trivial rfl rfl Try.underlying26 rfl rfl (by rfl) ?_
                      refine G.moveS rfl trivial rfl rfl rfl ?_
                      refine G.lenSlice rfl trivial rfl rfl Try.underlying34 rfl ?_
                      refine G.call E10 rfl rfl trivial rfl rfl (wa_fits W0 [_, _, _, _, _] _ bg bs bd base T fs us d sg sp hw (by omega) b.length (by omega)) rfl ?_
                      rintro e L2 ⟨rfl, rfl⟩
                      rw [decide_eq_false (show ¬ (1 ≤ b.length ∧ b.length ≤ 60000 ∧ b.length + 4 + (size fs + size us) ≤ 65536) by omega)]
                      refine G.assignB rfl trivial rfl rfl rfl ?_
                      refine G.nil ?_
                      refine C.seq ?_
                      refine C.region ?_
                      refine G.loadAt (by first | exact .here | exact .next .here | exact .next (.next .here) | exact .next (.next (.next .here)) | exact .next (.next (.next (.next .here))) | exact .next (.next (.next (.next (.next .here)))) | exact .next (.next (.next (.next (.next (.next .here))))) | exact .next (.next (.next (.next (.next (.next (.next .here)))))) | exact .in1 | exact .next .in1 | exact .next (.next .in1) | exact .next (.next (.next .in1)) | exact .next (.next (.next (.next .in1))) | exact .in2 | exact .next .in2 | exact .next (.next .in2) | exact .next (.next (.next .in2)) | exact .next (.next (.next (.next .in2))) | exact .app .here | exact .app (.next .here) | exact .app (.next (.next .here)) | exact .app (.next (.next (.next .here))) | exact .app (.next (.next (.next (.next .here)))) | exact .app (.next (.next (.next (.next (.next .here))))) | exact .app (.next (.next (.next (.next (.next (.next .here)))))) | exact .app (.next (.next (.next (.next (.next (.next (.next .here))))))) | exact .app .in1 | exact .app .in2 | exact .app (.next .in1) | exact .next (.app .in1) | exact .next (.next (.app .in1)) | exact .next (.app .here) | exact .next (.next (.app .here)) | exact .next (.next (.next (.app .here))) | exact .next (.next (.next (.next (.app .here))))) rfl trivial rfl rfl Try.underlying26 rfl rfl (by rfl) ?_
                      refine G.moveS rfl trivial rfl rfl rfl ?_
                      refine G.call E11 rfl rfl trivial rfl rfl (wa_full W0 [_, _, _, _, _] _ bg bs bd base T fs us d sg sp hw (by omega) a10 b.length c10 (by omega) (by omega)) rfl ?_
                      rintro e L2 ⟨rfl, rfl⟩
                      refine G.moveU rfl trivial rfl rfl rfl ?_
                      refine G.extractL rfl trivial rfl rfl rfl rfl ?_
                      refine G.extractL rfl trivial rfl rfl rfl rfl ?_
                      refine G.assignI rfl trivial rfl rfl rfl ?_
                      refine G.assignI rfl trivial rfl rfl rfl ?_
                      refine G.nil ?_
                      refine C.seq ?_
                      refine C.seq ?_
                      refine C.region ?_
                      refine G.moveI rfl trivial rfl rfl rfl ?_
                      refine G.moveI rfl trivial rfl rfl rfl ?_
                      refine G.bin rfl trivial rfl rfl rfl rfl rfl ?_
                      refine G.moveB rfl trivial rfl rfl rfl ?_
                      refine G.no (t := 118) rfl (by simp) ?_
                      refine G.moveI rfl ⟨_, rfl, rfl, rfl⟩ rfl rfl rfl ?_
                      refine G.bin rfl ⟨_, rfl, rfl, rfl⟩ rfl rfl rfl rfl rfl ?_
                      refine G.moveB rfl ⟨_, rfl, rfl, rfl⟩ rfl rfl rfl ?_
                      refine G.yes (t := 121) rfl (by simp) ?_
                      refine G.moveB rfl ⟨_, rfl, rfl, rfl⟩ rfl rfl rfl ?_
                      refine G.moveI rfl ⟨_, rfl, rfl, rfl⟩ rfl rfl rfl ?_
                      refine G.bin rfl ⟨_, rfl, rfl, rfl⟩ rfl rfl rfl rfl rfl ?_
                      refine G.fix (d := 124) (v := .bool false) rfl ?_
                      refine G.boolNe rfl ⟨_, rfl, rfl, rfl⟩ rfl rfl Try.underlying4 rfl rfl ?_
                      refine G.fix (d := 125) (v := .bool false) rfl ?_
                      first | refine G.pickT rfl ⟨_, rfl, rfl, rfl⟩ rfl rfl rfl rfl ?_ | refine G.pickF rfl ⟨_, rfl, rfl, rfl⟩ rfl rfl rfl rfl ?_
                      first | refine G.pickT rfl trivial rfl rfl rfl rfl ?_ | refine G.pickF rfl trivial rfl rfl rfl rfl ?_
                      refine G.fix (d := 127) (v := .bool false) rfl ?_
                      refine G.nil ?_
                      refine C.condF rfl ?_
                      refine C.skip ?_
                      refine C.seq ?_
                      refine C.region ?_
                      refine G.moveI rfl trivial rfl rfl rfl ?_
                      refine G.bin rfl trivial rfl rfl rfl rfl rfl ?_
                      refine G.nil ?_
                      refine C.no rfl (by simp) ?_
                      refine C.skip ?_
                      exact ⟨base, T, fs, us, d, sg, sp, _, _, _, by omega, by omega, hw, hbk0, rfl, rfl, rfl, rfl, rfl, rfl, rfl⟩
                    · intro hc9
                      refine C.skip ?_
                      refine C.seq ?_
                      refine C.region ?_
                      refine G.loadAt (by first | exact .here | exact .next .here | exact .next (.next .here) | exact .next (.next (.next .here)) | exact .next (.next (.next (.next .here))) | exact .next (.next (.next (.next (.next .here)))) | exact .next (.next (.next (.next (.next (.next .here))))) | exact .next (.next (.next (.next (.next (.next (.next .here)))))) | exact .in1 | exact .next .in1 | exact .next (.next .in1) | exact .next (.next (.next .in1)) | exact .next (.next (.next (.next .in1))) | exact .in2 | exact .next .in2 | exact .next (.next .in2) | exact .next (.next (.next .in2)) | exact .next (.next (.next (.next .in2))) | exact .app .here | exact .app (.next .here) | exact .app (.next (.next .here)) | exact .app (.next (.next (.next .here))) | exact .app (.next (.next (.next (.next .here)))) | exact .app (.next (.next (.next (.next (.next .here))))) | exact .app (.next (.next (.next (.next (.next (.next .here)))))) | exact .app (.next (.next (.next (.next (.next (.next (.next .here))))))) | exact .app .in1 | exact .app .in2 | exact .app (.next .in1) | exact .next (.app .in1) | exact .next (.next (.app .in1)) | exact .next (.app .here) | exact .next (.next (.app .here)) | exact .next (.next (.next (.app .here))) | exact .next (.next (.next (.next (.app .here))))) rfl trivial rfl rfl Try.underlying26 rfl rfl (by rfl) ?_
                      refine G.moveS rfl trivial rfl rfl rfl ?_
                      refine G.lenSlice rfl trivial rfl rfl Try.underlying34 rfl ?_
                      refine G.call E10 rfl rfl trivial rfl rfl (wa_fits W0 [_, _, _, _, _] _ bg bs bd base T fs us d sg sp hw (by omega) b.length (by omega)) rfl ?_
                      rintro e L2 ⟨rfl, rfl⟩
                      rw [decide_eq_true (show (1 ≤ b.length ∧ b.length ≤ 60000 ∧ b.length + 4 + (size fs + size us) ≤ 65536) by omega)]
                      refine G.assignB rfl trivial rfl rfl rfl ?_
                      refine G.nil ?_
                      refine C.seq ?_
                      refine C.region ?_
                      refine G.loadAt (by first | exact .here | exact .next .here | exact .next (.next .here) | exact .next (.next (.next .here)) | exact .next (.next (.next (.next .here))) | exact .next (.next (.next (.next (.next .here)))) | exact .next (.next (.next (.next (.next (.next .here))))) | exact .next (.next (.next (.next (.next (.next (.next .here)))))) | exact .in1 | exact .next .in1 | exact .next (.next .in1) | exact .next (.next (.next .in1)) | exact .next (.next (.next (.next .in1))) | exact .in2 | exact .next .in2 | exact .next (.next .in2) | exact .next (.next (.next .in2)) | exact .next (.next (.next (.next .in2))) | exact .app .here | exact .app (.next .here) | exact .app (.next (.next .here)) | exact .app (.next (.next (.next .here))) | exact .app (.next (.next (.next (.next .here)))) | exact .app (.next (.next (.next (.next (.next .here))))) | exact .app (.next (.next (.next (.next (.next (.next .here)))))) | exact .app (.next (.next (.next (.next (.next (.next (.next .here))))))) | exact .app .in1 | exact .app .in2 | exact .app (.next .in1) | exact .next (.app .in1) | exact .next (.next (.app .in1)) | exact .next (.app .here) | exact .next (.next (.app .here)) | exact .next (.next (.next (.app .here))) | exact .next (.next (.next (.next (.app .here))))) rfl trivial rfl rfl Try.underlying26 rfl rfl (by rfl) ?_
                      refine G.moveS rfl trivial rfl rfl rfl ?_
                      refine G.less (fun _ h => Mem.rot [_, _, _, _, _] [_] h) ?_
                      refine G.call E11 rfl rfl trivial rfl rfl (wa_append W0 _ bg bs bd base T fs us d sg sp hw (by omega) a10 b.length c10 b rfl (by omega) (by omega) (fun S => Rd.under hr10 S)) rfl ?_
                      rintro e L2 ⟨sg3, hw3, rfl, rfl⟩
                      refine G.less (fun _ h => Mem.rot [_] [_, _, _, _, _] h) ?_
                      refine G.moveU rfl trivial rfl rfl rfl ?_
                      refine G.extractL rfl trivial rfl rfl rfl rfl ?_
                      refine G.extractL rfl trivial rfl rfl rfl rfl ?_
                      refine G.assignI rfl trivial rfl rfl rfl ?_
                      refine G.assignI rfl trivial rfl rfl rfl ?_
                      refine G.nil ?_
                      refine C.seq ?_
                      refine C.seq ?_
                      refine C.region ?_
                      refine G.moveI rfl trivial rfl rfl rfl ?_
                      refine G.moveI rfl trivial rfl rfl rfl ?_
                      refine G.bin rfl trivial rfl rfl rfl rfl rfl ?_
                      refine G.moveB rfl trivial rfl rfl rfl ?_
                      refine G.no (t := 118) rfl (by simp) ?_
                      refine G.moveI rfl ⟨_, rfl, rfl, rfl⟩ rfl rfl rfl ?_
                      refine G.bin rfl ⟨_, rfl, rfl, rfl⟩ rfl rfl rfl rfl rfl ?_
                      refine G.moveB rfl ⟨_, rfl, rfl, rfl⟩ rfl rfl rfl ?_
                      refine G.yes (t := 121) rfl (by simp) ?_
                      refine G.moveB rfl ⟨_, rfl, rfl, rfl⟩ rfl rfl rfl ?_
                      refine G.moveI rfl ⟨_, rfl, rfl, rfl⟩ rfl rfl rfl ?_
                      refine G.bin rfl ⟨_, rfl, rfl, rfl⟩ rfl rfl rfl rfl rfl ?_
                      refine G.fix (d := 124) (v := .bool true) rfl ?_
                      refine G.boolNe rfl ⟨_, rfl, rfl, rfl⟩ rfl rfl Try.underlying4 rfl rfl ?_
                      refine G.fix (d := 125) (v := .bool false) rfl ?_
                      first | refine G.pickT rfl ⟨_, rfl, rfl, rfl⟩ rfl rfl rfl rfl ?_ | refine G.pickF rfl ⟨_, rfl, rfl, rfl⟩ rfl rfl rfl rfl ?_
                      first | refine G.pickT rfl trivial rfl rfl rfl rfl ?_ | refine G.pickF rfl trivial rfl rfl rfl rfl ?_
                      refine G.fix (d := 127) (v := .bool false) rfl ?_
                      refine G.nil ?_
                      refine C.condF rfl ?_
                      refine C.skip ?_
                      refine C.seq ?_
                      refine C.region ?_
                      refine G.moveI rfl trivial rfl rfl rfl ?_
                      refine G.bin rfl trivial rfl rfl rfl rfl rfl ?_
                      refine G.nil ?_
                      refine C.yes rfl rfl ?_
                      refine C.seq ?_
                      refine C.drawn mixed ([[(bK, .row [.slice aK (fs ++ us).length cK, .int .i64 (base : Int), .int .i64 ((base + size fs : Nat) : Int)] 33 3)], s10]) [18] (fun _ h => Mem.kk h) ?_
                      refine GA.pure (i := 0) (fun _ _ _ _ _ h => h) rfl (by kernel_rfl) trivial rfl rfl (Y.moveP rfl rfl) (#[true, false, false, false, false, false, false, false, false, false, false, false, false, false, false, false, false, false, false]) (by kernel_rfl) ?_
                      refine GA.pure (i := 1) (fun _ _ _ _ _ h => h) rfl (by kernel_rfl) trivial rfl rfl (Y.moveP rfl rfl) (#[true, true, false, false, false, false, false, false, false, false, false, false, false, false, false, false, false, false, false]) (by kernel_rfl) ?_
                      first | refine GA.pure (i := 2) (fun _ _ _ _ _ h => h) rfl (by kernel_rfl) trivial rfl rfl (Y.nilCheckP rfl rfl) (#[true, true, true, false, false, false, false, false, false, false, false, false, false, false, false, false, false, false, false]) (by kernel_rfl) ?_ | refine GA.pure (i := 2) (fun _ _ _ _ _ h => h) rfl (by kernel_rfl) trivial rfl rfl (Y.nilCheckF rfl rfl) (#[true, true, true, false, false, false, false, false, false, false, false, false, false, false, false, false, false, false, false]) (by kernel_rfl) ?_
                      refine GA.pure (i := 3) (fun _ _ _ _ _ h => h) rfl (by kernel_rfl) trivial rfl rfl (Y.fieldAddr rfl Try.underlying33 rfl I31 rfl rfl) (#[true, true, true, true, false, false, false, false, false, false, false, false, false, false, false, false, false, false, false]) (by kernel_rfl) ?_
                      refine GA.read (i := 4) (fun _ _ _ _ _ h => h) rfl (by kernel_rfl) (by kernel_rfl) trivial rfl rfl (Y.loadAt (v := .slice aK (fs ++ us).length cK) .here rfl Try.underlying31 rfl rfl rfl) (#[true, true, true, true, true, false, false, false, false, false, false, false, false, false, false, false, false, false, false]) (by kernel_rfl) ?_
                      refine GA.pure (i := 5) (fun _ _ _ _ _ h => h) rfl (by kernel_rfl) trivial rfl rfl (Y.moveS rfl rfl) (#[true, true, true, true, true, true, false, false, false, false, false, false, false, false, false, false, false, false, false]) (by kernel_rfl) ?_
                      refine GA.read (i := 6) (fun _ _ _ _ _ h => h) rfl (by kernel_rfl) (by kernel_rfl) trivial rfl rfl (Y.bytesStr b rfl Try.underlying34 Try.underlying5 Try.underlying9 rfl rfl (Rd.under hr10 [_])) (#[true, true, true, true, true, true, true, false, false, false, false, false, false, false, false, false, false, false, false]) (by kernel_rfl) ?_
                      refine GA.pure (i := 7) (fun _ _ _ _ _ h => h) rfl (by kernel_rfl) trivial rfl rfl (Y.moveP rfl rfl) (#[true, true, true, true, true, true, true, true, false, false, false, false, false, false, false, false, false, false, false]) (by kernel_rfl) ?_
                      refine GA.pure (i := 9) (fun _ _ _ _ _ h => h) rfl (by kernel_rfl) trivial rfl rfl (Y.moveS rfl rfl) (#[true, true, true, true, true, true, true, true, false, true, false, false, false, false, false, false, false, false, false]) (by kernel_rfl) ?_
                      refine GA.pure (i := 10) (fun _ _ _ _ _ h => h) rfl (by kernel_rfl) trivial rfl rfl (Y.lenSlice rfl Try.underlying34 rfl) (#[true, true, true, true, true, true, true, true, false, true, true, false, false, false, false, false, false, false, false]) (by kernel_rfl) ?_
                      refine GA.one (i := 8) rfl (by kernel_rfl) (#[true, true, true, true, true, true, true, true, true, true, true, false, false, false, false, false, false, false, false]) (by kernel_rfl) ?_
                      refine G.call E9 rfl rfl trivial rfl rfl (kend_spec W0 [_, _, _, _] _ bK base (base + size fs) (fs ++ us) _ hbk0 (by omega) (by omega)) rfl ?_
                      rintro e L2 ⟨rfl, rfl⟩
                      refine G.nil ?_
                      refine ⟨fun _ _ h => (by first | exact Mem.kk h | exact Mem.kk h.tail | exact Mem.keepN [_, _] h.tail), ?_⟩
                      refine GA.pure (i := 11) (fun _ _ _ _ _ h => h) rfl (by kernel_rfl) trivial rfl rfl (Y.add rfl rfl rfl (by omega)) (#[true, true, true, true, true, true, true, true, true, true, true, true, false, false, false, false, false, false, false]) (by kernel_rfl) ?_
                      refine GA.pure (i := 12) (fun _ _ _ _ _ h => h) rfl (by kernel_rfl) trivial rfl rfl (Y.add rfl rfl rfl (by omega)) (#[true, true, true, true, true, true, true, true, true, true, true, true, true, false, false, false, false, false, false]) (by kernel_rfl) ?_
                      refine GA.fix (d := 142) (v := .int .i64 ((base + size (fs ++ us) + b.length + 4 : Nat) : Int)) (by show Value.int .i64 _ = _; congr 1) ?_
                      refine GA.pure (i := 13) (fun _ _ _ _ _ h => h) rfl (by kernel_rfl) trivial rfl rfl (Y.buildL (cs := [strV b, .int .i64 ((base + size (fs ++ us) + b.length + 4 : Nat) : Int)]) rfl Try.underlying47 I47 B47 rfl rfl) (#[true, true, true, true, true, true, true, true, true, true, true, true, true, true, false, false, false, false, false]) (by kernel_rfl) ?_
                      refine GA.one (i := 14) rfl (by kernel_rfl) (#[true, true, true, true, true, true, true, true, true, true, true, true, true, true, true, false, false, false, false]) (by kernel_rfl) ?_
                      refine G.buildSliceL (cs := [strV b, .int .i64 ((base + size (fs ++ us) + b.length + 4 : Nat) : Int)]) (zs := [(.string ByteArray.empty), (.int .i64 0)]) rfl trivial rfl rfl Try.underlying31 I47 rfl (by kernel_rfl) rfl rfl ?_
                      intro b144
                      refine G.nil ?_
                      refine ⟨fun _ _ h => (by first | exact Mem.kk h | exact Mem.kk h.tail | exact Mem.keepN [_, _] h.tail), ?_⟩
                      refine GA.one (i := 15) rfl (by kernel_rfl) (#[true, true, true, true, true, true, true, true, true, true, true, true, true, true, true, true, false, false, false]) (by kernel_rfl) ?_
                      refine G.less (fun _ h => Mem.k36 h) ?_
                      refine G.append hvK rfl trivial rfl rfl Try.underlying31 Try.underlying31 I47 rfl (by decide) rfl rfl (by decide) (Rd.row0 (.next .here)) rfl (by intro v hv; simp at hv; rcases hv with rfl | rfl <;> rfl) (by omega) ?_
                      intro v3 s3 hv3
                      obtain ⟨a3, c3, rfl, _⟩ := hv3.form
                      refine G.less (fun _ h => h.skip1) ?_
                      have hlr : (fs ++ (us ++ [b])).length = (fs ++ us).length + 1 := by rw [← List.append_assoc, List.length_append]; rfl
                      have hrv : recsV base (fs ++ (us ++ [b])) = recsV base (fs ++ us) ++ [strV b, .int .i64 ((base + size (fs ++ us) + b.length + 4 : Nat) : Int)] := by rw [← List.append_assoc, recsV_append]; rfl
                      have hv4 : OwnS (.slice a3 (fs ++ (us ++ [b])).length c3) (fs ++ (us ++ [b])).length (recsV base (fs ++ (us ++ [b]))) 47 2 s3 := by rw [hlr, hrv]; exact hv3
                      refine G.nil ?_
                      refine ⟨fun _ _ h => (by first | exact Mem.kk h | exact Mem.kk h.tail | exact Mem.keepN [_, _] h.tail), ?_⟩
                      first | refine GA.pure (i := 16) (fun _ _ _ _ _ h => h) rfl (by kernel_rfl) trivial rfl rfl (Y.nilCheckP rfl rfl) (#[true, true, true, true, true, true, true, true, true, true, true, true, true, true, true, true, true, false, false]) (by kernel_rfl) ?_ | refine GA.pure (i := 16) (fun _ _ _ _ _ h => h) rfl (by kernel_rfl) trivial rfl rfl (Y.nilCheckF rfl rfl) (#[true, true, true, true, true, true, true, true, true, true, true, true, true, true, true, true, true, false, false]) (by kernel_rfl) ?_
                      refine GA.pure (i := 17) (fun _ _ _ _ _ h => h) rfl (by kernel_rfl) trivial rfl rfl (Y.fieldAddr rfl Try.underlying33 rfl I31 rfl rfl) (#[true, true, true, true, true, true, true, true, true, true, true, true, true, true, true, true, true, true, false]) (by kernel_rfl) ?_
                      refine GA.one (i := 18) rfl (by kernel_rfl) (#[true, true, true, true, true, true, true, true, true, true, true, true, true, true, true, true, true, true, true]) (by kernel_rfl) ?_
                      refine G.store (v := .slice a3 ((fs ++ us).length + 1) c3) (.next .here) rfl trivial rfl I31 rfl rfl rfl (by simp) [.slice a3 ((fs ++ us).length + 1) c3, .int .i64 (base : Int), .int .i64 ((base + size fs : Nat) : Int)] rfl ?_
                      refine G.nil ?_
                      refine ⟨fun _ h => absurd h (by simp [hit]), ?_⟩
                      refine GA.done (by kernel_rfl) ?_
                      refine C.seq ?_
                      refine C.region ?_
                      refine G.less (fun _ h => Mem.k37 h) ?_
                      have hsr : size (us ++ [b]) = size us + (b.length + 4) := by rw [size_append, size_cons, size_nil]
                      have hsr2 : size (fs ++ (us ++ [b])) = size fs + size (us ++ [b]) := size_append _ _
                      refine G.moveI rfl trivial rfl rfl rfl ?_
                      refine G.moveP rfl trivial rfl rfl rfl ?_
                      refine G.call E9 rfl rfl trivial rfl rfl (kend_spec W0 [_, _, _, _] _ bK base (base + size fs) (fs ++ (us ++ [b])) _ ⟨_, s3, hv4, by rw [hlr]⟩ (by omega) (by omega)) rfl ?_
                      rintro e L2 ⟨rfl, rfl⟩
                      refine G.bin rfl trivial rfl rfl rfl rfl rfl ?_
                      refine G.nil ?_
                      refine C.no rfl (by omega) ?_
                      refine C.skip ?_
                      exact ⟨base, T, fs, us ++ [b], d, sg3, sp, _, _, _, by omega, by omega, hw3, ⟨_, s3, hv4, by rw [hlr]⟩, rfl, rfl, rfl, rfl, rfl, rfl, rfl⟩
              · intro hc7
                have hbk0 := hbk
                obtain ⟨vK, wsK, hvK, rfl⟩ := hbk
                obtain ⟨aK, cK, rfl, hrK⟩ := hvK.form
                have hrdK : ∀ a1 : Option Addr, a1 = aK → Rd W0 (s10 :: [(bo, .row (wopC op) 37 6)] :: [(b4, .row [ptr bd] 24 1)] :: [(b5, .row [ptr bg] 26 1)] :: ((bK, .row [.slice aK (fs ++ us).length cK, .int .i64 (base : Int), .int .i64 ((base + size fs : Nat) : Int)] 33 3) :: wsK) :: sg :: sp :: devSeg bd bl d :: []) a1 (recsV base (fs ++ us)) := fun a1 h1 => by
                  subst h1
                  exact (hrK W0 []).mono fun _ h => Mem.only (Mem.split1 (Mem.dropN [_, _, _, _] h))
                refine C.seq ?_
                refine C.region ?_
                refine G.bin rfl trivial rfl rfl rfl rfl rfl ?_
                refine G.assignB rfl trivial rfl rfl rfl ?_
                refine G.nil ?_
                refine C.cond _ rfl ?_ ?_
                · intro hc13
                  refine C.seq ?_
                  refine C.region ?_
                  refine G.moveP rfl trivial rfl rfl rfl ?_
                  refine G.call E9 rfl rfl trivial rfl rfl (kend_spec W0 [_, _, _, _] _ bK base (base + size fs) (fs ++ us) _ hbk0 (by omega) (by omega)) rfl ?_
                  rintro e L2 ⟨rfl, rfl⟩
                  refine G.add rfl trivial rfl rfl rfl rfl (by omega) ?_
                  refine G.fix (d := 156) (v := .int .i64 ((base + size (fs ++ us) + 9 : Nat) : Int)) (by show Value.int .i64 _ = _; congr 1) ?_
                  refine G.assignI rfl trivial rfl rfl rfl ?_
                  refine G.nil ?_
                  refine C.cut (fun F D' L' => ∃ to : Nat, ((∃ j, j ≤ (fs ++ us).length ∧ to = base + size ((fs ++ us).take j)) ∨ to = base + size (fs ++ us) + 9) ∧ F 15 = .int .i64 (to : Int) ∧ F 9 = ptr bo ∧ F 8 = .int .i64 (i : Int) ∧ F 7 = ptr bK ∧ F 5 = ptr b5 ∧ F 4 = ptr b4 ∧ F 0 = .slice (some ⟨p0, q0, none⟩) ops.length cap0 ∧ D' = [] ∧ s10 :: [(bo, .row (wopC op) 37 6)] :: [(b4, .row [ptr bd] 24 1)] :: [(b5, .row [ptr bg] 26 1)] :: ((bK, .row [.slice aK (fs ++ us).length cK, .int .i64 (base : Int), .int .i64 ((base + size fs : Nat) : Int)] 33 3) :: wsK) :: sg :: sp :: devSeg bd bl d :: [] = L') ?_ ?_
                  ·
                    refine C.seq ?_
                    refine C.drawn mixed (_) [] (fun _ h => h) ?_
                    refine GA.pure (i := 0) (fun _ _ _ _ _ h => h) rfl (by kernel_rfl) trivial rfl rfl (Y.fieldAddr rfl Try.underlying37 rfl I3 rfl rfl) (#[true, false, false, false, false, false, false, false, false, false, false, false, false]) (by kernel_rfl) ?_
                    refine GA.read (i := 1) (fun _ _ _ _ _ h => h) rfl (by kernel_rfl) (by kernel_rfl) trivial rfl rfl (Y.loadAt (v := .int .i64 op.to) (.next .here) rfl Try.underlying3 rfl rfl rfl) (#[true, true, false, false, false, false, false, false, false, false, false, false, false]) (by kernel_rfl) ?_
                    refine GA.pure (i := 2) (fun _ _ _ _ _ h => h) rfl (by kernel_rfl) trivial rfl rfl (Y.bin rfl rfl rfl rfl) (#[true, true, true, false, false, false, false, false, false, false, false, false, false]) (by kernel_rfl) ?_
                    refine GA.pure (i := 3) (fun _ _ _ _ _ h => h) rfl (by kernel_rfl) trivial rfl rfl (Y.moveB rfl rfl) (#[true, true, true, true, false, false, false, false, false, false, false, false, false]) (by kernel_rfl) ?_
                    refine GA.fork (t := 160) _ rfl ?_ ?_
                    · intro hg160
                      refine GA.pure (i := 4) (fun _ _ _ _ _ h => h) rfl (by kernel_rfl) ⟨_, rfl, rfl, rfl⟩ rfl rfl (Y.fieldAddr rfl Try.underlying37 rfl I3 rfl rfl) (#[true, true, true, true, true, false, false, false, false, false, false, false, false]) (by kernel_rfl) ?_
                      refine GA.read (i := 5) (fun _ _ _ _ _ h => h) rfl (by kernel_rfl) (by kernel_rfl) ⟨_, rfl, rfl, rfl⟩ rfl rfl (Y.loadAt (v := .int .i64 op.to) (.next .here) rfl Try.underlying3 rfl rfl rfl) (#[true, true, true, true, true, true, false, false, false, false, false, false, false]) (by kernel_rfl) ?_
                      refine GA.pure (i := 6) (fun _ _ _ _ _ h => h) rfl (by kernel_rfl) ⟨_, rfl, rfl, rfl⟩ rfl rfl (Y.moveP rfl rfl) (#[true, true, true, true, true, true, true, false, false, false, false, false, false]) (by kernel_rfl) ?_
                      first | refine GA.pure (i := 7) (fun _ _ _ _ _ h => h) rfl (by kernel_rfl) ⟨_, rfl, rfl, rfl⟩ rfl rfl (Y.nilCheckP rfl rfl) (#[true, true, true, true, true, true, true, true, false, false, false, false, false]) (by kernel_rfl) ?_ | refine GA.pure (i := 7) (fun _ _ _ _ _ h => h) rfl (by kernel_rfl) ⟨_, rfl, rfl, rfl⟩ rfl rfl (Y.nilCheckF rfl rfl) (#[true, true, true, true, true, true, true, true, false, false, false, false, false]) (by kernel_rfl) ?_
                      refine GA.pure (i := 8) (fun _ _ _ _ _ h => h) rfl (by kernel_rfl) ⟨_, rfl, rfl, rfl⟩ rfl rfl (Y.fieldAddr rfl Try.underlying33 rfl I31 rfl rfl) (#[true, true, true, true, true, true, true, true, true, false, false, false, false]) (by kernel_rfl) ?_
                      refine GA.read (i := 9) (fun _ _ _ _ _ h => h) rfl (by kernel_rfl) (by kernel_rfl) ⟨_, rfl, rfl, rfl⟩ rfl rfl (Y.loadAt (v := .slice aK (fs ++ us).length cK) (.next (.next (.next (.next .here)))) rfl Try.underlying31 rfl rfl rfl) (#[true, true, true, true, true, true, true, true, true, true, false, false, false]) (by kernel_rfl) ?_
                      refine GA.pure (i := 10) (fun _ _ _ _ _ h => h) rfl (by kernel_rfl) ⟨_, rfl, rfl, rfl⟩ rfl rfl (Y.lenSlice rfl Try.underlying31 rfl) (#[true, true, true, true, true, true, true, true, true, true, true, false, false]) (by kernel_rfl) ?_
                      refine GA.pure (i := 11) (fun _ _ _ _ _ h => h) rfl (by kernel_rfl) ⟨_, rfl, rfl, rfl⟩ rfl rfl (Y.bin rfl rfl rfl rfl) (#[true, true, true, true, true, true, true, true, true, true, true, true, false]) (by kernel_rfl) ?_
                      first | refine GA.pure (i := 12) (fun _ _ _ _ _ h => h) rfl (by kernel_rfl) trivial rfl rfl (Y.pickT rfl rfl rfl) (#[true, true, true, true, true, true, true, true, true, true, true, true, true]) (by kernel_rfl) ?_ | refine GA.pure (i := 12) (fun _ _ _ _ _ h => h) rfl (by kernel_rfl) trivial rfl rfl (Y.pickF rfl rfl rfl) (#[true, true, true, true, true, true, true, true, true, true, true, true, true]) (by kernel_rfl) ?_
                      refine GA.done (by kernel_rfl) ?_
                      refine C.cond _ rfl ?_ ?_
                      · intro hc14
                        obtain ⟨tn, htn⟩ : ∃ tn : Nat, op.to = (tn : Int) := ⟨op.to.toNat, by omega⟩
                        have htl : tn < (fs ++ us).length := by omega
                        obtain ⟨pK, qK, hpK, _⟩ := (hrdK aK rfl).some_ (by rw [recsV_length]; omega)
                        have hcell := cell_off (hrdK _ hpK.symm) (recsV_end (fs ++ us) base tn htl) (off := qK + tn * 2 + 1) (by omega)
                        refine C.drawn mixed (_) [] (fun _ h => h) ?_
                        refine GA.pure (i := 0) (fun _ _ _ _ _ h => h) rfl (by kernel_rfl) trivial rfl rfl (Y.moveP rfl rfl) (#[true, false, false, false, false, false, false, false, false, false]) (by kernel_rfl) ?_
                        first | refine GA.pure (i := 1) (fun _ _ _ _ _ h => h) rfl (by kernel_rfl) trivial rfl rfl (Y.nilCheckP rfl rfl) (#[true, true, false, false, false, false, false, false, false, false]) (by kernel_rfl) ?_ | refine GA.pure (i := 1) (fun _ _ _ _ _ h => h) rfl (by kernel_rfl) trivial rfl rfl (Y.nilCheckF rfl rfl) (#[true, true, false, false, false, false, false, false, false, false]) (by kernel_rfl) ?_
                        refine GA.pure (i := 2) (fun _ _ _ _ _ h => h) rfl (by kernel_rfl) trivial rfl rfl (Y.fieldAddr rfl Try.underlying33 rfl I31 rfl rfl) (#[true, true, true, false, false, false, false, false, false, false]) (by kernel_rfl) ?_
                        refine GA.read (i := 3) (fun _ _ _ _ _ h => h) rfl (by kernel_rfl) (by kernel_rfl) trivial rfl rfl (Y.loadAt (v := .slice aK (fs ++ us).length cK) (.next (.next (.next (.next .here)))) rfl Try.underlying31 rfl rfl rfl) (#[true, true, true, true, false, false, false, false, false, false]) (by kernel_rfl) ?_
                        refine GA.fix (d := 173) (v := .slice (some ⟨pK, qK, none⟩) (fs ++ us).length cK) (by rw [← hpK]; rfl) ?_
                        refine GA.pure (i := 4) (fun _ _ _ _ _ h => h) rfl (by kernel_rfl) trivial rfl rfl (Y.fieldAddr rfl Try.underlying37 rfl I3 rfl rfl) (#[true, true, true, true, true, false, false, false, false, false]) (by kernel_rfl) ?_
                        refine GA.read (i := 5) (fun _ _ _ _ _ h => h) rfl (by kernel_rfl) (by kernel_rfl) trivial rfl rfl (Y.loadAt (v := .int .i64 op.to) (.next .here) rfl Try.underlying3 rfl rfl rfl) (#[true, true, true, true, true, true, false, false, false, false]) (by kernel_rfl) ?_
                        refine GA.fix (d := 175) (v := .int .i64 (tn : Int)) (by rw [← htn]; rfl) ?_
                        refine GA.pure (i := 6) (fun _ _ _ _ _ h => h) rfl (by kernel_rfl) trivial rfl rfl (Y.indexAddr rfl Try.underlying31 I47 rfl rfl (by omega)) (#[true, true, true, true, true, true, true, false, false, false]) (by kernel_rfl) ?_
                        refine GA.pure (i := 7) (fun _ _ _ _ _ h => h) rfl (by kernel_rfl) trivial rfl rfl (Y.fieldAddr rfl Try.underlying47 rfl I2 rfl rfl) (#[true, true, true, true, true, true, true, true, false, false]) (by kernel_rfl) ?_
                        refine GA.fix (d := 177) (v := .pointer (some ⟨pK, qK + tn * 2 + 1, none⟩)) (by show Value.pointer (some ⟨pK, qK + (tn : Int).toNat * 2 + 1, none⟩) = _; rw [show (tn : Int).toNat = tn by omega]) ?_
                        refine GA.read (i := 8) (fun _ _ _ _ _ h => h) rfl (by kernel_rfl) (by kernel_rfl) trivial rfl rfl (Y.load rfl Try.underlying2 rfl rfl hcell) (#[true, true, true, true, true, true, true, true, true, false]) (by kernel_rfl) ?_
                        refine GA.pure (i := 9) (fun _ _ _ _ _ h => h) rfl (by kernel_rfl) trivial rfl rfl (Y.assignI rfl rfl) (#[true, true, true, true, true, true, true, true, true, true]) (by kernel_rfl) ?_
                        refine GA.done (by kernel_rfl) ?_
                        exact ⟨base + size ((fs ++ us).take (tn + 1)), .inl ⟨tn + 1, htl, rfl⟩, rfl, rfl, rfl, rfl, rfl, rfl, rfl, rfl, rfl⟩
                      · intro hc14
                        refine C.skip ?_
                        exact ⟨base + size (fs ++ us) + 9, .inr rfl, rfl, rfl, rfl, rfl, rfl, rfl, rfl, rfl, rfl⟩
                    · intro hg160
                      refine GA.skip (i := 4) (fun _ _ _ _ _ h => h) rfl (by kernel_rfl) rfl rfl rfl rfl rfl rfl (#[true, true, true, true, true, false, false, false, false, false, false, false, false]) (by kernel_rfl) ?_
                      refine GA.skip (i := 5) (fun _ _ _ _ _ h => h) rfl (by kernel_rfl) rfl rfl rfl rfl rfl rfl (#[true, true, true, true, true, true, false, false, false, false, false, false, false]) (by kernel_rfl) ?_
                      refine GA.skip (i := 6) (fun _ _ _ _ _ h => h) rfl (by kernel_rfl) rfl rfl rfl rfl rfl rfl (#[true, true, true, true, true, true, true, false, false, false, false, false, false]) (by kernel_rfl) ?_
                      refine GA.skip (i := 7) (fun _ _ _ _ _ h => h) rfl (by kernel_rfl) rfl rfl rfl rfl rfl rfl (#[true, true, true, true, true, true, true, true, false, false, false, false, false]) (by kernel_rfl) ?_
                      refine GA.skip (i := 8) (fun _ _ _ _ _ h => h) rfl (by kernel_rfl) rfl rfl rfl rfl rfl rfl (#[true, true, true, true, true, true, true, true, true, false, false, false, false]) (by kernel_rfl) ?_
                      refine GA.skip (i := 9) (fun _ _ _ _ _ h => h) rfl (by kernel_rfl) rfl rfl rfl rfl rfl rfl (#[true, true, true, true, true, true, true, true, true, true, false, false, false]) (by kernel_rfl) ?_
                      refine GA.skip (i := 10) (fun _ _ _ _ _ h => h) rfl (by kernel_rfl) rfl rfl rfl rfl rfl rfl (#[true, true, true, true, true, true, true, true, true, true, true, false, false]) (by kernel_rfl) ?_
                      refine GA.skip (i := 11) (fun _ _ _ _ _ h => h) rfl (by kernel_rfl) rfl rfl rfl rfl rfl rfl (#[true, true, true, true, true, true, true, true, true, true, true, true, false]) (by kernel_rfl) ?_
                      first | refine GA.pure (i := 12) (fun _ _ _ _ _ h => h) rfl (by kernel_rfl) trivial rfl rfl (Y.pickT rfl rfl rfl) (#[true, true, true, true, true, true, true, true, true, true, true, true, true]) (by kernel_rfl) ?_ | refine GA.pure (i := 12) (fun _ _ _ _ _ h => h) rfl (by kernel_rfl) trivial rfl rfl (Y.pickF rfl rfl rfl) (#[true, true, true, true, true, true, true, true, true, true, true, true, true]) (by kernel_rfl) ?_
                      refine GA.done (by kernel_rfl) ?_
                      refine C.condF rfl ?_
                      refine C.skip ?_
                      exact ⟨base + size (fs ++ us) + 9, .inr rfl, rfl, rfl, rfl, rfl, rfl, rfl, rfl, rfl, rfl⟩
                  ·
                    rintro F D' L' ⟨to, hto2, h15, h9, h8, h7, h5, h4, h0', rfl, rfl⟩
                    refine C.fix (d := 15) h15 ?_
                    refine C.fix (d := 9) h9 ?_
                    refine C.fix (d := 8) h8 ?_
                    refine C.fix (d := 7) h7 ?_
                    refine C.fix (d := 5) h5 ?_
                    refine C.fix (d := 4) h4 ?_
                    refine C.fix (d := 0) h0' ?_
                    have htob : to ≤ base + size (fs ++ us) + 9 := by
                      rcases hto2 with ⟨j, hj, rfl⟩ | rfl
                      · have := size_take_le (fs ++ us) j
                        omega
                      · omega
                    refine C.seq ?_
                    refine C.seq ?_
                    refine C.region ?_
                    refine G.loadAt (by first | exact .here | exact .next .here | exact .next (.next .here) | exact .next (.next (.next .here)) | exact .next (.next (.next (.next .here))) | exact .next (.next (.next (.next (.next .here)))) | exact .next (.next (.next (.next (.next (.next .here))))) | exact .next (.next (.next (.next (.next (.next (.next .here)))))) | exact .in1 | exact .next .in1 | exact .next (.next .in1) | exact .next (.next (.next .in1)) | exact .next (.next (.next (.next .in1))) | exact .in2 | exact .next .in2 | exact .next (.next .in2) | exact .next (.next (.next .in2)) | exact .next (.next (.next (.next .in2))) | exact .app .here | exact .app (.next .here) | exact .app (.next (.next .here)) | exact .app (.next (.next (.next .here))) | exact .app (.next (.next (.next (.next .here)))) | exact .app (.next (.next (.next (.next (.next .here))))) | exact .app (.next (.next (.next (.next (.next (.next .here)))))) | exact .app (.next (.next (.next (.next (.next (.next (.next .here))))))) | exact .app .in1 | exact .app .in2 | exact .app (.next .in1) | exact .next (.app .in1) | exact .next (.next (.app .in1)) | exact .next (.app .here) | exact .next (.next (.app .here)) | exact .next (.next (.next (.app .here))) | exact .next (.next (.next (.next (.app .here))))) rfl trivial rfl rfl Try.underlying26 rfl rfl (by rfl) ?_
                    refine G.moveI rfl trivial rfl rfl rfl ?_
                    refine G.less (fun _ h => Mem.rot [_, _, _, _, _] [_, _, _] h) ?_
                    refine G.call E12 rfl rfl trivial rfl rfl (wa_force W0 _ bg bs bd bl base T fs us d sg sp hw (by omega) (by omega) to) rfl ?_
                    rintro e L2 ⟨sg3, sp3, d3, n, rfl, hn, hfar, hmore, hw3, rfl⟩
                    refine G.less (fun _ h => Mem.rot [_, _, _] [_, _, _, _, _] h) ?_
                    have hfn : size (fs ++ us.take n) = size fs + size (us.take n) := size_append _ _
                    have hnl := size_take_le us n
                    have hge : base + size (fs ++ us) ≤ base + size (fs ++ us.take n) ∨ to ≤ base + size (fs ++ us.take n) := by
                      rcases Nat.lt_or_ge n us.length with h | h
                      · right
                        have h1 := hmore h
                        rcases hto2 with ⟨j, hj, rfl⟩ | rfl
                        · rcases Nat.lt_or_ge (fs.length + n) j with h2 | h2
                          · exfalso
                            have h3 := size_take_mono (fs ++ us) (show fs.length + (n + 1) ≤ j by omega)
                            rw [List.take_append, List.take_of_length_le (by omega), size_append, show fs.length + (n + 1) - fs.length = n + 1 by omega] at h3
                            omega
                          · have h3 := size_take_mono (fs ++ us) h2
                            rw [List.take_append (i := fs.length + n), List.take_of_length_le (l := fs) (by omega), size_append, show fs.length + n - fs.length = n by omega] at h3
                            omega
                        · exfalso
                          have h3 := size_take_le us (n + 1)
                          omega
                      · left
                        rw [List.take_of_length_le (by omega)]
                        exact Nat.le_refl _
                    refine G.bin rfl trivial rfl rfl rfl rfl rfl ?_
                    refine G.moveB rfl trivial rfl rfl rfl ?_
                    refine G.no (t := 183) rfl (by simp) ?_
                    refine G.loadAt (by first | exact .here | exact .next .here | exact .next (.next .here) | exact .next (.next (.next .here)) | exact .next (.next (.next (.next .here))) | exact .next (.next (.next (.next (.next .here)))) | exact .next (.next (.next (.next (.next (.next .here))))) | exact .next (.next (.next (.next (.next (.next (.next .here)))))) | exact .in1 | exact .next .in1 | exact .next (.next .in1) | exact .next (.next (.next .in1)) | exact .next (.next (.next (.next .in1))) | exact .in2 | exact .next .in2 | exact .next (.next .in2) | exact .next (.next (.next .in2)) | exact .next (.next (.next (.next .in2))) | exact .app .here | exact .app (.next .here) | exact .app (.next (.next .here)) | exact .app (.next (.next (.next .here))) | exact .app (.next (.next (.next (.next .here)))) | exact .app (.next (.next (.next (.next (.next .here))))) | exact .app (.next (.next (.next (.next (.next (.next .here)))))) | exact .app (.next (.next (.next (.next (.next (.next (.next .here))))))) | exact .app .in1 | exact .app .in2 | exact .app (.next .in1) | exact .next (.app .in1) | exact .next (.next (.app .in1)) | exact .next (.app .here) | exact .next (.next (.app .here)) | exact .next (.next (.next (.app .here))) | exact .next (.next (.next (.next (.app .here))))) rfl ⟨_, rfl, rfl, rfl⟩ rfl rfl Try.underlying26 rfl rfl (by rfl) ?_
                    refine G.call E13 rfl rfl ⟨_, rfl, rfl, rfl⟩ rfl rfl (wa_forced W0 [_, _, _, _, _] _ bg bs bd _ _ _ _ d3 sg3 sp3 hw3) rfl ?_
                    rintro e L2 ⟨rfl, rfl⟩
                    refine G.moveI rfl ⟨_, rfl, rfl, rfl⟩ rfl rfl rfl ?_
                    refine G.moveP rfl ⟨_, rfl, rfl, rfl⟩ rfl rfl rfl ?_
                    refine G.call E9 rfl rfl ⟨_, rfl, rfl, rfl⟩ rfl rfl (kend_spec W0 [_, _, _, _] _ bK base (base + size fs) (fs ++ us) _ hbk0 (by omega) (by omega)) rfl ?_
                    rintro e L2 ⟨rfl, rfl⟩
                    refine G.min2 rfl ⟨_, rfl, rfl, rfl⟩ rfl rfl rfl rfl ?_
                    refine G.bin rfl ⟨_, rfl, rfl, rfl⟩ rfl rfl rfl rfl rfl ?_
                    first | refine G.pickT rfl trivial rfl rfl rfl rfl ?_ | refine G.pickF rfl trivial rfl rfl rfl rfl ?_
                    refine G.moveB rfl trivial rfl rfl rfl ?_
                    refine G.no (t := 192) rfl (by split <;> omega) ?_
                    refine G.loadAt (by first | exact .here | exact .next .here | exact .next (.next .here) | exact .next (.next (.next .here)) | exact .next (.next (.next (.next .here))) | exact .next (.next (.next (.next (.next .here)))) | exact .next (.next (.next (.next (.next (.next .here))))) | exact .next (.next (.next (.next (.next (.next (.next .here)))))) | exact .in1 | exact .next .in1 | exact .next (.next .in1) | exact .next (.next (.next .in1)) | exact .next (.next (.next (.next .in1))) | exact .in2 | exact .next .in2 | exact .next (.next .in2) | exact .next (.next (.next .in2)) | exact .next (.next (.next (.next .in2))) | exact .app .here | exact .app (.next .here) | exact .app (.next (.next .here)) | exact .app (.next (.next (.next .here))) | exact .app (.next (.next (.next (.next .here)))) | exact .app (.next (.next (.next (.next (.next .here))))) | exact .app (.next (.next (.next (.next (.next (.next .here)))))) | exact .app (.next (.next (.next (.next (.next (.next (.next .here))))))) | exact .app .in1 | exact .app .in2 | exact .app (.next .in1) | exact .next (.app .in1) | exact .next (.next (.app .in1)) | exact .next (.app .here) | exact .next (.next (.app .here)) | exact .next (.next (.next (.app .here))) | exact .next (.next (.next (.next (.app .here))))) rfl ⟨_, rfl, rfl, rfl⟩ rfl rfl Try.underlying26 rfl rfl (by rfl) ?_
                    refine G.call E13 rfl rfl ⟨_, rfl, rfl, rfl⟩ rfl rfl (wa_forced W0 [_, _, _, _, _] _ bg bs bd _ _ _ _ d3 sg3 sp3 hw3) rfl ?_
                    rintro e L2 ⟨rfl, rfl⟩
                    refine G.moveP rfl ⟨_, rfl, rfl, rfl⟩ rfl rfl rfl ?_
                    refine G.call E9 rfl rfl ⟨_, rfl, rfl, rfl⟩ rfl rfl (kend_spec W0 [_, _, _, _] _ bK base (base + size fs) (fs ++ us) _ hbk0 (by omega) (by omega)) rfl ?_
                    rintro e L2 ⟨rfl, rfl⟩
                    refine G.bin rfl ⟨_, rfl, rfl, rfl⟩ rfl rfl rfl rfl rfl ?_
                    first | refine G.pickT rfl trivial rfl rfl rfl rfl ?_ | refine G.pickF rfl trivial rfl rfl rfl rfl ?_
                    refine G.nil ?_
                    refine C.no rfl (by omega) ?_
                    refine C.skip ?_
                    refine C.region ?_
                    refine G.moveP rfl trivial rfl rfl rfl ?_
                    refine G.loadAt (by first | exact .here | exact .next .here | exact .next (.next .here) | exact .next (.next (.next .here)) | exact .next (.next (.next (.next .here))) | exact .next (.next (.next (.next (.next .here)))) | exact .next (.next (.next (.next (.next (.next .here))))) | exact .next (.next (.next (.next (.next (.next (.next .here)))))) | exact .in1 | exact .next .in1 | exact .next (.next .in1) | exact .next (.next (.next .in1)) | exact .next (.next (.next (.next .in1))) | exact .in2 | exact .next .in2 | exact .next (.next .in2) | exact .next (.next (.next .in2)) | exact .next (.next (.next (.next .in2))) | exact .app .here | exact .app (.next .here) | exact .app (.next (.next .here)) | exact .app (.next (.next (.next .here))) | exact .app (.next (.next (.next (.next .here)))) | exact .app (.next (.next (.next (.next (.next .here))))) | exact .app (.next (.next (.next (.next (.next (.next .here)))))) | exact .app (.next (.next (.next (.next (.next (.next (.next .here))))))) | exact .app .in1 | exact .app .in2 | exact .app (.next .in1) | exact .next (.app .in1) | exact .next (.next (.app .in1)) | exact .next (.app .here) | exact .next (.next (.app .here)) | exact .next (.next (.next (.app .here))) | exact .next (.next (.next (.next (.app .here))))) rfl trivial rfl rfl Try.underlying26 rfl rfl (by rfl) ?_
                    refine G.call E13 rfl rfl trivial rfl rfl (wa_forced W0 [_, _, _, _, _] _ bg bs bd _ _ _ _ d3 sg3 sp3 hw3) rfl ?_
                    rintro e L2 ⟨rfl, rfl⟩
                    first | refine G.nilCheckP rfl trivial rfl rfl rfl ?_ | refine G.nilCheckF rfl trivial rfl rfl rfl ?_
                    refine G.fieldAddr rfl trivial rfl rfl Try.underlying33 rfl I2 rfl rfl ?_
                    refine G.store (v := .int _ _) (by first | exact .here | exact .next .here | exact .next (.next .here) | exact .next (.next (.next .here)) | exact .next (.next (.next (.next .here))) | exact .next (.next (.next (.next (.next .here)))) | exact .next (.next (.next (.next (.next (.next .here))))) | exact .next (.next (.next (.next (.next (.next (.next .here)))))) | exact .in1 | exact .next .in1 | exact .next (.next .in1) | exact .next (.next (.next .in1)) | exact .next (.next (.next (.next .in1))) | exact .in2 | exact .next .in2 | exact .next (.next .in2) | exact .next (.next (.next .in2)) | exact .next (.next (.next (.next .in2))) | exact .app .here | exact .app (.next .here) | exact .app (.next (.next .here)) | exact .app (.next (.next (.next .here))) | exact .app (.next (.next (.next (.next .here)))) | exact .app (.next (.next (.next (.next (.next .here))))) | exact .app (.next (.next (.next (.next (.next (.next .here)))))) | exact .app (.next (.next (.next (.next (.next (.next (.next .here))))))) | exact .app .in1 | exact .app .in2 | exact .app (.next .in1) | exact .next (.app .in1) | exact .next (.next (.app .in1)) | exact .next (.app .here) | exact .next (.next (.app .here)) | exact .next (.next (.next (.app .here))) | exact .next (.next (.next (.next (.app .here))))) rfl trivial rfl I2 rfl rfl rfl (by first | decide | (simp; done) | (simp; omega)) _ (by first | (simp only [List.set_cons_succ, List.set_cons_zero]; done) | (simp only [List.set_cons_succ, List.set_cons_zero]; exact rfl) | exact rfl) ?_
                    refine G.nil ?_
                    have hcat : fs ++ us.take n ++ us.drop n = fs ++ us := by rw [List.append_assoc, List.take_append_drop]
                    have hds : size (us.take n) + size (us.drop n) = size us := by rw [← size_append, List.take_append_drop]
                    exact ⟨base, T + 1, fs ++ us.take n, us.drop n, d3, sg3, sp3, _, _, _, by omega, by omega, hw3, by rw [hcat]; exact ⟨_, wsK, hvK, rfl⟩, rfl, rfl, rfl, rfl, rfl, rfl, rfl⟩
                · intro hc13
                  refine C.seq ?_
                  refine C.seq ?_
                  refine C.region ?_
                  refine G.loadAt (by first | exact .here | exact .next .here | exact .next (.next .here) | exact .next (.next (.next .here)) | exact .next (.next (.next (.next .here))) | exact .next (.next (.next (.next (.next .here)))) | exact .next (.next (.next (.next (.next (.next .here))))) | exact .next (.next (.next (.next (.next (.next (.next .here)))))) | exact .in1 | exact .next .in1 | exact .next (.next .in1) | exact .next (.next (.next .in1)) | exact .next (.next (.next (.next .in1))) | exact .in2 | exact .next .in2 | exact .next (.next .in2) | exact .next (.next (.next .in2)) | exact .next (.next (.next (.next .in2))) | exact .app .here | exact .app (.next .here) | exact .app (.next (.next .here)) | exact .app (.next (.next (.next .here))) | exact .app (.next (.next (.next (.next .here)))) | exact .app (.next (.next (.next (.next (.next .here))))) | exact .app (.next (.next (.next (.next (.next (.next .here)))))) | exact .app (.next (.next (.next (.next (.next (.next (.next .here))))))) | exact .app .in1 | exact .app .in2 | exact .app (.next .in1) | exact .next (.app .in1) | exact .next (.next (.app .in1)) | exact .next (.app .here) | exact .next (.next (.app .here)) | exact .next (.next (.next (.app .here))) | exact .next (.next (.next (.next (.app .here))))) rfl trivial rfl rfl Try.underlying26 rfl rfl (by rfl) ?_
                  refine G.less (fun _ h => Mem.rot [_, _, _, _, _] [_, _, _] h) ?_
                  refine G.call E14 rfl rfl trivial rfl rfl (wa_cut W0 _ bg bs bd bl base T fs us d sg sp hw (by omega) (by omega)) rfl ?_
                  rintro e L2 ⟨sg3, sp3, d3, rfl, hw3, rfl⟩
                  refine G.less (fun _ h => Mem.rot [_, _, _] [_, _, _, _, _] h) ?_
                  have hsn : size [] = 0 := size_nil
                  refine G.bin rfl trivial rfl rfl rfl rfl rfl ?_
                  refine G.nil ?_
                  refine C.no rfl (by simp) ?_
                  refine C.skip ?_
                  refine C.seq ?_
                  refine C.region ?_
                  refine G.moveP rfl trivial rfl rfl rfl ?_
                  refine G.moveP rfl trivial rfl rfl rfl ?_
                  refine G.call E9 rfl rfl trivial rfl rfl (kend_spec W0 [_, _, _, _] _ bK base (base + size fs) (fs ++ us) _ hbk0 (by omega) (by omega)) rfl ?_
                  rintro e L2 ⟨rfl, rfl⟩
                  first | refine G.nilCheckP rfl trivial rfl rfl rfl ?_ | refine G.nilCheckF rfl trivial rfl rfl rfl ?_
                  refine G.fieldAddr rfl trivial rfl rfl Try.underlying33 rfl I2 rfl rfl ?_
                  refine G.store (v := .int _ _) (by first | exact .here | exact .next .here | exact .next (.next .here) | exact .next (.next (.next .here)) | exact .next (.next (.next (.next .here))) | exact .next (.next (.next (.next (.next .here)))) | exact .next (.next (.next (.next (.next (.next .here))))) | exact .next (.next (.next (.next (.next (.next (.next .here)))))) | exact .in1 | exact .next .in1 | exact .next (.next .in1) | exact .next (.next (.next .in1)) | exact .next (.next (.next (.next .in1))) | exact .in2 | exact .next .in2 | exact .next (.next .in2) | exact .next (.next (.next .in2)) | exact .next (.next (.next (.next .in2))) | exact .app .here | exact .app (.next .here) | exact .app (.next (.next .here)) | exact .app (.next (.next (.next .here))) | exact .app (.next (.next (.next (.next .here)))) | exact .app (.next (.next (.next (.next (.next .here))))) | exact .app (.next (.next (.next (.next (.next (.next .here)))))) | exact .app (.next (.next (.next (.next (.next (.next (.next .here))))))) | exact .app .in1 | exact .app .in2 | exact .app (.next .in1) | exact .next (.app .in1) | exact .next (.next (.app .in1)) | exact .next (.app .here) | exact .next (.next (.app .here)) | exact .next (.next (.next (.app .here))) | exact .next (.next (.next (.next (.app .here))))) rfl trivial rfl I2 rfl rfl rfl (by first | decide | (simp; done) | (simp; omega)) _ (by first | (simp only [List.set_cons_succ, List.set_cons_zero]; done) | (simp only [List.set_cons_succ, List.set_cons_zero]; exact rfl) | exact rfl) ?_
                  refine G.nil ?_
                  refine C.region ?_
                  refine G.moveP rfl trivial rfl rfl rfl ?_
                  refine G.moveP rfl trivial rfl rfl rfl ?_
                  refine G.moveP rfl trivial rfl rfl rfl ?_
                  first | refine G.nilCheckP rfl trivial rfl rfl rfl ?_ | refine G.nilCheckF rfl trivial rfl rfl rfl ?_
                  refine G.fieldAddr rfl trivial rfl rfl Try.underlying33 rfl I2 rfl rfl ?_
                  refine G.loadAt (by first | exact .here | exact .next .here | exact .next (.next .here) | exact .next (.next (.next .here)) | exact .next (.next (.next (.next .here))) | exact .next (.next (.next (.next (.next .here)))) | exact .next (.next (.next (.next (.next (.next .here))))) | exact .next (.next (.next (.next (.next (.next (.next .here)))))) | exact .in1 | exact .next .in1 | exact .next (.next .in1) | exact .next (.next (.next .in1)) | exact .next (.next (.next (.next .in1))) | exact .in2 | exact .next .in2 | exact .next (.next .in2) | exact .next (.next (.next .in2)) | exact .next (.next (.next (.next .in2))) | exact .app .here | exact .app (.next .here) | exact .app (.next (.next .here)) | exact .app (.next (.next (.next .here))) | exact .app (.next (.next (.next (.next .here)))) | exact .app (.next (.next (.next (.next (.next .here))))) | exact .app (.next (.next (.next (.next (.next (.next .here)))))) | exact .app (.next (.next (.next (.next (.next (.next (.next .here))))))) | exact .app .in1 | exact .app .in2 | exact .app (.next .in1) | exact .next (.app .in1) | exact .next (.next (.app .in1)) | exact .next (.app .here) | exact .next (.next (.app .here)) | exact .next (.next (.next (.app .here))) | exact .next (.next (.next (.next (.app .here))))) rfl trivial rfl rfl Try.underlying2 rfl rfl (by rfl) ?_
                  first | refine G.nilCheckP rfl trivial rfl rfl rfl ?_ | refine G.nilCheckF rfl trivial rfl rfl rfl ?_
                  refine G.fieldAddr rfl trivial rfl rfl Try.underlying33 rfl I31 rfl rfl ?_
                  refine G.store (v := .slice _ _ _) (by first | exact .here | exact .next .here | exact .next (.next .here) | exact .next (.next (.next .here)) | exact .next (.next (.next (.next .here))) | exact .next (.next (.next (.next (.next .here)))) | exact .next (.next (.next (.next (.next (.next .here))))) | exact .next (.next (.next (.next (.next (.next (.next .here)))))) | exact .in1 | exact .next .in1 | exact .next (.next .in1) | exact .next (.next (.next .in1)) | exact .next (.next (.next (.next .in1))) | exact .in2 | exact .next .in2 | exact .next (.next .in2) | exact .next (.next (.next .in2)) | exact .next (.next (.next (.next .in2))) | exact .app .here | exact .app (.next .here) | exact .app (.next (.next .here)) | exact .app (.next (.next (.next .here))) | exact .app (.next (.next (.next (.next .here)))) | exact .app (.next (.next (.next (.next (.next .here))))) | exact .app (.next (.next (.next (.next (.next (.next .here)))))) | exact .app (.next (.next (.next (.next (.next (.next (.next .here))))))) | exact .app .in1 | exact .app .in2 | exact .app (.next .in1) | exact .next (.app .in1) | exact .next (.next (.app .in1)) | exact .next (.app .here) | exact .next (.next (.app .here)) | exact .next (.next (.next (.app .here))) | exact .next (.next (.next (.next (.app .here))))) rfl trivial rfl I31 rfl rfl rfl (by first | decide | (simp; done) | (simp; omega)) _ (by first | (simp only [List.set_cons_succ, List.set_cons_zero]; done) | (simp only [List.set_cons_succ, List.set_cons_zero]; exact rfl) | exact rfl) ?_
                  first | refine G.nilCheckP rfl trivial rfl rfl rfl ?_ | refine G.nilCheckF rfl trivial rfl rfl rfl ?_
                  refine G.fieldAddr rfl trivial rfl rfl Try.underlying33 rfl I2 rfl rfl ?_
                  refine G.store (v := .int _ _) (by first | exact .here | exact .next .here | exact .next (.next .here) | exact .next (.next (.next .here)) | exact .next (.next (.next (.next .here))) | exact .next (.next (.next (.next (.next .here)))) | exact .next (.next (.next (.next (.next (.next .here))))) | exact .next (.next (.next (.next (.next (.next (.next .here)))))) | exact .in1 | exact .next .in1 | exact .next (.next .in1) | exact .next (.next (.next .in1)) | exact .next (.next (.next (.next .in1))) | exact .in2 | exact .next .in2 | exact .next (.next .in2) | exact .next (.next (.next .in2)) | exact .next (.next (.next (.next .in2))) | exact .app .here | exact .app (.next .here) | exact .app (.next (.next .here)) | exact .app (.next (.next (.next .here))) | exact .app (.next (.next (.next (.next .here)))) | exact .app (.next (.next (.next (.next (.next .here))))) | exact .app (.next (.next (.next (.next (.next (.next .here)))))) | exact .app (.next (.next (.next (.next (.next (.next (.next .here))))))) | exact .app .in1 | exact .app .in2 | exact .app (.next .in1) | exact .next (.app .in1) | exact .next (.next (.app .in1)) | exact .next (.app .here) | exact .next (.next (.app .here)) | exact .next (.next (.next (.app .here))) | exact .next (.next (.next (.next (.app .here))))) rfl trivial rfl I2 rfl rfl rfl (by first | decide | (simp; done) | (simp; omega)) _ (by first | (simp only [List.set_cons_succ, List.set_cons_zero]; done) | (simp only [List.set_cons_succ, List.set_cons_zero]; exact rfl) | exact rfl) ?_
                  refine G.less (fun _ h => Mem.rot [_, _, _, _] [_] h) ?_
                  refine G.less (fun _ h => (Mem.split1 h).tail) ?_
                  refine G.less (fun _ h => Mem.rot [_] [_, _, _, _] h) ?_
                  refine G.nil ?_
                  exact ⟨base + size fs + size us, T + 2, [], [], d3, sg3, sp3, _, _, _, by omega, by omega, hw3, ⟨_, [], OwnS.nil _ _, by rw [hRs, hsn, ← Nat.add_assoc]; rfl⟩, rfl, rfl, rfl, rfl, rfl, rfl, rfl⟩
          ·
            rintro F D' L' ⟨base7, T7, fs7, us7, d7, sg7, sp7, sgK7, x7, y7, hsz7, hT7, hw7, hbk7, h8, h7, h5, h4, h0', rfl, rfl⟩
            refine C.fix (d := 8) h8 ?_
            refine C.fix (d := 7) h7 ?_
            refine C.fix (d := 5) h5 ?_
            refine C.fix (d := 4) h4 ?_
            refine C.fix (d := 0) h0' ?_
            have hroom7 := hw7.room
            have hbk70 := hbk7
            obtain ⟨v7, ws7, hv7, rfl⟩ := hbk7
            have hRl7 := length_le_size (fs7 ++ us7)
            have hRs7 : size (fs7 ++ us7) = size fs7 + size us7 := size_append fs7 us7
            refine C.seq ?_
            refine C.drawn mixed (_) [] (fun _ h => h) ?_
            refine GA.read (i := 0) (fun _ _ _ _ _ h => h) rfl (by kernel_rfl) (by kernel_rfl) trivial rfl rfl (Y.loadAt (by first | exact .here | exact .next .here | exact .next (.next .here) | exact .next (.next (.next .here)) | exact .next (.next (.next (.next .here))) | exact .next (.next (.next (.next (.next .here)))) | exact .next (.next (.next (.next (.next (.next .here))))) | exact .next (.next (.next (.next (.next (.next (.next .here)))))) | exact .in1 | exact .next .in1 | exact .next (.next .in1) | exact .next (.next (.next .in1)) | exact .next (.next (.next (.next .in1))) | exact .in2 | exact .next .in2 | exact .next (.next .in2) | exact .next (.next (.next .in2)) | exact .next (.next (.next (.next .in2))) | exact .app .here | exact .app (.next .here) | exact .app (.next (.next .here)) | exact .app (.next (.next (.next .here))) | exact .app (.next (.next (.next (.next .here)))) | exact .app (.next (.next (.next (.next (.next .here))))) | exact .app (.next (.next (.next (.next (.next (.next .here)))))) | exact .app (.next (.next (.next (.next (.next (.next (.next .here))))))) | exact .app .in1 | exact .app .in2 | exact .app (.next .in1) | exact .next (.app .in1) | exact .next (.next (.app .in1)) | exact .next (.app .here) | exact .next (.next (.app .here)) | exact .next (.next (.next (.app .here))) | exact .next (.next (.next (.next (.app .here))))) rfl Try.underlying26 rfl rfl (by rfl)) (#[true, false, false, false, false, false, false, false, false, false, false, false, false, false, false, false, false, false, false, false, false, false, false]) (by kernel_rfl) ?_
            refine GA.pure (i := 2) (fun _ _ _ _ _ h => h) rfl (by kernel_rfl) trivial rfl rfl (Y.moveP rfl rfl) (#[true, false, true, false, false, false, false, false, false, false, false, false, false, false, false, false, false, false, false, false, false, false, false]) (by kernel_rfl) ?_
            refine GA.one (i := 1) rfl (by kernel_rfl) (#[true, true, true, false, false, false, false, false, false, false, false, false, false, false, false, false, false, false, false, false, false, false, false]) (by kernel_rfl) ?_
            refine G.call E15 rfl rfl trivial rfl rfl (wa_end W0 [_, _, _, _, _] _ bg bs bd _ _ _ _ d7 sg7 sp7 hw7) rfl ?_
            rintro e L2 ⟨rfl, rfl⟩
            refine G.nil ?_
            refine ⟨fun _ _ h => h, ?_⟩
            refine GA.one (i := 3) rfl (by kernel_rfl) (#[true, true, true, true, false, false, false, false, false, false, false, false, false, false, false, false, false, false, false, false, false, false, false]) (by kernel_rfl) ?_
            refine G.call E9 rfl rfl trivial rfl rfl (kend_spec W0 [_, _, _, _] _ bK base7 (base7 + size fs7) (fs7 ++ us7) _ hbk70 (by omega) (by omega)) rfl ?_
            rintro e L2 ⟨rfl, rfl⟩
            refine G.nil ?_
            refine ⟨fun _ _ h => h, ?_⟩
            refine GA.pure (i := 4) (fun _ _ _ _ _ h => h) rfl (by kernel_rfl) trivial rfl rfl (Y.bin rfl rfl rfl rfl) (#[true, true, true, true, true, false, false, false, false, false, false, false, false, false, false, false, false, false, false, false, false, false, false]) (by kernel_rfl) ?_
            refine GA.pure (i := 5) (fun _ _ _ _ _ h => h) rfl (by kernel_rfl) trivial rfl rfl (Y.moveB rfl rfl) (#[true, true, true, true, true, true, false, false, false, false, false, false, false, false, false, false, false, false, false, false, false, false, false]) (by kernel_rfl) ?_
            refine GA.no (t := 209) rfl (by omega) ?_
            refine GA.read (i := 6) (fun _ _ _ _ _ h => h) rfl (by kernel_rfl) (by kernel_rfl) ⟨_, rfl, rfl, rfl⟩ rfl rfl (Y.loadAt (by first | exact .here | exact .next .here | exact .next (.next .here) | exact .next (.next (.next .here)) | exact .next (.next (.next (.next .here))) | exact .next (.next (.next (.next (.next .here)))) | exact .next (.next (.next (.next (.next (.next .here))))) | exact .next (.next (.next (.next (.next (.next (.next .here)))))) | exact .in1 | exact .next .in1 | exact .next (.next .in1) | exact .next (.next (.next .in1)) | exact .next (.next (.next (.next .in1))) | exact .in2 | exact .next .in2 | exact .next (.next .in2) | exact .next (.next (.next .in2)) | exact .next (.next (.next (.next .in2))) | exact .app .here | exact .app (.next .here) | exact .app (.next (.next .here)) | exact .app (.next (.next (.next .here))) | exact .app (.next (.next (.next (.next .here)))) | exact .app (.next (.next (.next (.next (.next .here))))) | exact .app (.next (.next (.next (.next (.next (.next .here)))))) | exact .app (.next (.next (.next (.next (.next (.next (.next .here))))))) | exact .app .in1 | exact .app .in2 | exact .app (.next .in1) | exact .next (.app .in1) | exact .next (.next (.app .in1)) | exact .next (.app .here) | exact .next (.next (.app .here)) | exact .next (.next (.next (.app .here))) | exact .next (.next (.next (.next (.app .here))))) rfl Try.underlying26 rfl rfl (by rfl)) (#[true, true, true, true, true, true, true, false, false, false, false, false, false, false, false, false, false, false, false, false, false, false, false]) (by kernel_rfl) ?_
            refine GA.pure (i := 8) (fun _ _ _ _ _ h => h) rfl (by kernel_rfl) ⟨_, rfl, rfl, rfl⟩ rfl rfl (Y.moveP rfl rfl) (#[true, true, true, true, true, true, true, false, true, false, false, false, false, false, false, false, false, false, false, false, false, false, false]) (by kernel_rfl) ?_
            first | refine GA.pure (i := 9) (fun _ _ _ _ _ h => h) rfl (by kernel_rfl) ⟨_, rfl, rfl, rfl⟩ rfl rfl (Y.nilCheckP rfl rfl) (#[true, true, true, true, true, true, true, false, true, true, false, false, false, false, false, false, false, false, false, false, false, false, false]) (by kernel_rfl) ?_ | refine GA.pure (i := 9) (fun _ _ _ _ _ h => h) rfl (by kernel_rfl) ⟨_, rfl, rfl, rfl⟩ rfl rfl (Y.nilCheckF rfl rfl) (#[true, true, true, true, true, true, true, false, true, true, false, false, false, false, false, false, false, false, false, false, false, false, false]) (by kernel_rfl) ?_
            refine GA.pure (i := 10) (fun _ _ _ _ _ h => h) rfl (by kernel_rfl) ⟨_, rfl, rfl, rfl⟩ rfl rfl (Y.fieldAddr rfl Try.underlying33 rfl I2 rfl rfl) (#[true, true, true, true, true, true, true, false, true, true, true, false, false, false, false, false, false, false, false, false, false, false, false]) (by kernel_rfl) ?_
            refine GA.read (i := 11) (fun _ _ _ _ _ h => h) rfl (by kernel_rfl) (by kernel_rfl) ⟨_, rfl, rfl, rfl⟩ rfl rfl (Y.loadAt (v := .int .i64 (base7 : Int)) (.next (.next (.next (.next .here)))) rfl Try.underlying2 rfl rfl rfl) (#[true, true, true, true, true, true, true, false, true, true, true, true, false, false, false, false, false, false, false, false, false, false, false]) (by kernel_rfl) ?_
            refine GA.one (i := 7) rfl (by kernel_rfl) (#[true, true, true, true, true, true, true, true, true, true, true, true, false, false, false, false, false, false, false, false, false, false, false]) (by kernel_rfl) ?_
            refine G.call E16 rfl rfl ⟨_, rfl, rfl, rfl⟩ rfl rfl (wa_base W0 [_, _, _, _, _] _ bg bs bd _ _ _ _ d7 sg7 sp7 hw7) rfl ?_
            rintro e L2 ⟨rfl, rfl⟩
            refine G.nil ?_
            refine ⟨fun _ _ h => h, ?_⟩
            refine GA.pure (i := 12) (fun _ _ _ _ _ h => h) rfl (by kernel_rfl) ⟨_, rfl, rfl, rfl⟩ rfl rfl (Y.bin rfl rfl rfl rfl) (#[true, true, true, true, true, true, true, true, true, true, true, true, true, false, false, false, false, false, false, false, false, false, false]) (by kernel_rfl) ?_
            first | refine GA.pure (i := 13) (fun _ _ _ _ _ h => h) rfl (by kernel_rfl) trivial rfl rfl (Y.pickT rfl rfl rfl) (#[true, true, true, true, true, true, true, true, true, true, true, true, true, true, false, false, false, false, false, false, false, false, false]) (by kernel_rfl) ?_ | refine GA.pure (i := 13) (fun _ _ _ _ _ h => h) rfl (by kernel_rfl) trivial rfl rfl (Y.pickF rfl rfl rfl) (#[true, true, true, true, true, true, true, true, true, true, true, true, true, true, false, false, false, false, false, false, false, false, false]) (by kernel_rfl) ?_
            refine GA.pure (i := 14) (fun _ _ _ _ _ h => h) rfl (by kernel_rfl) trivial rfl rfl (Y.moveB rfl rfl) (#[true, true, true, true, true, true, true, true, true, true, true, true, true, true, true, false, false, false, false, false, false, false, false]) (by kernel_rfl) ?_
            refine GA.no (t := 218) rfl (by simp) ?_
            refine GA.read (i := 15) (fun _ _ _ _ _ h => h) rfl (by kernel_rfl) (by kernel_rfl) ⟨_, rfl, rfl, rfl⟩ rfl rfl (Y.loadAt (by first | exact .here | exact .next .here | exact .next (.next .here) | exact .next (.next (.next .here)) | exact .next (.next (.next (.next .here))) | exact .next (.next (.next (.next (.next .here)))) | exact .next (.next (.next (.next (.next (.next .here))))) | exact .next (.next (.next (.next (.next (.next (.next .here)))))) | exact .in1 | exact .next .in1 | exact .next (.next .in1) | exact .next (.next (.next .in1)) | exact .next (.next (.next (.next .in1))) | exact .in2 | exact .next .in2 | exact .next (.next .in2) | exact .next (.next (.next .in2)) | exact .next (.next (.next (.next .in2))) | exact .app .here | exact .app (.next .here) | exact .app (.next (.next .here)) | exact .app (.next (.next (.next .here))) | exact .app (.next (.next (.next (.next .here)))) | exact .app (.next (.next (.next (.next (.next .here))))) | exact .app (.next (.next (.next (.next (.next (.next .here)))))) | exact .app (.next (.next (.next (.next (.next (.next (.next .here))))))) | exact .app .in1 | exact .app .in2 | exact .app (.next .in1) | exact .next (.app .in1) | exact .next (.next (.app .in1)) | exact .next (.app .here) | exact .next (.next (.app .here)) | exact .next (.next (.next (.app .here))) | exact .next (.next (.next (.next (.app .here))))) rfl Try.underlying26 rfl rfl (by rfl)) (#[true, true, true, true, true, true, true, true, true, true, true, true, true, true, true, true, false, false, false, false, false, false, false]) (by kernel_rfl) ?_
            refine GA.pure (i := 17) (fun _ _ _ _ _ h => h) rfl (by kernel_rfl) ⟨_, rfl, rfl, rfl⟩ rfl rfl (Y.moveP rfl rfl) (#[true, true, true, true, true, true, true, true, true, true, true, true, true, true, true, true, false, true, false, false, false, false, false]) (by kernel_rfl) ?_
            first | refine GA.pure (i := 18) (fun _ _ _ _ _ h => h) rfl (by kernel_rfl) ⟨_, rfl, rfl, rfl⟩ rfl rfl (Y.nilCheckP rfl rfl) (#[true, true, true, true, true, true, true, true, true, true, true, true, true, true, true, true, false, true, true, false, false, false, false]) (by kernel_rfl) ?_ | refine GA.pure (i := 18) (fun _ _ _ _ _ h => h) rfl (by kernel_rfl) ⟨_, rfl, rfl, rfl⟩ rfl rfl (Y.nilCheckF rfl rfl) (#[true, true, true, true, true, true, true, true, true, true, true, true, true, true, true, true, false, true, true, false, false, false, false]) (by kernel_rfl) ?_
            refine GA.pure (i := 19) (fun _ _ _ _ _ h => h) rfl (by kernel_rfl) ⟨_, rfl, rfl, rfl⟩ rfl rfl (Y.fieldAddr rfl Try.underlying33 rfl I2 rfl rfl) (#[true, true, true, true, true, true, true, true, true, true, true, true, true, true, true, true, false, true, true, true, false, false, false]) (by kernel_rfl) ?_
            refine GA.read (i := 20) (fun _ _ _ _ _ h => h) rfl (by kernel_rfl) (by kernel_rfl) ⟨_, rfl, rfl, rfl⟩ rfl rfl (Y.loadAt (v := .int .i64 ((base7 + size fs7 : Nat) : Int)) (.next (.next (.next (.next .here)))) rfl Try.underlying2 rfl rfl rfl) (#[true, true, true, true, true, true, true, true, true, true, true, true, true, true, true, true, false, true, true, true, true, false, false]) (by kernel_rfl) ?_
            refine GA.one (i := 16) rfl (by kernel_rfl) (#[true, true, true, true, true, true, true, true, true, true, true, true, true, true, true, true, true, true, true, true, true, false, false]) (by kernel_rfl) ?_
            refine G.call E13 rfl rfl ⟨_, rfl, rfl, rfl⟩ rfl rfl (wa_forced W0 [_, _, _, _, _] _ bg bs bd _ _ _ _ d7 sg7 sp7 hw7) rfl ?_
            rintro e L2 ⟨rfl, rfl⟩
            refine G.nil ?_
            refine ⟨fun _ _ h => h, ?_⟩
            refine GA.pure (i := 21) (fun _ _ _ _ _ h => h) rfl (by kernel_rfl) ⟨_, rfl, rfl, rfl⟩ rfl rfl (Y.bin rfl rfl rfl rfl) (#[true, true, true, true, true, true, true, true, true, true, true, true, true, true, true, true, true, true, true, true, true, true, false]) (by kernel_rfl) ?_
            first | refine GA.pure (i := 22) (fun _ _ _ _ _ h => h) rfl (by kernel_rfl) trivial rfl rfl (Y.pickT rfl rfl rfl) (#[true, true, true, true, true, true, true, true, true, true, true, true, true, true, true, true, true, true, true, true, true, true, true]) (by kernel_rfl) ?_ | refine GA.pure (i := 22) (fun _ _ _ _ _ h => h) rfl (by kernel_rfl) trivial rfl rfl (Y.pickF rfl rfl rfl) (#[true, true, true, true, true, true, true, true, true, true, true, true, true, true, true, true, true, true, true, true, true, true, true]) (by kernel_rfl) ?_
            refine GA.done (by kernel_rfl) ?_
            refine C.no rfl (by simp) ?_
            refine C.skip ?_
            refine C.region ?_
            refine G.moveI rfl trivial rfl rfl rfl ?_
            refine G.add rfl trivial rfl rfl rfl rfl (by omega) ?_
            refine G.assignI rfl trivial rfl rfl rfl ?_
            refine G.less (fun _ h => Mem.dropN [_, _] h) ?_
            refine G.nil ?_
            exact ⟨ops.length - (i + 1), by omega, i + 1, base7, T7, fs7, us7, bg, bs, bd, bl, d7, sg7, sp7, _, by omega, by omega, by omega, by omega, hw7, hbk70, rfl, rfl, rfl, rfl, rfl, rfl, rfl, rfl⟩
    · intro hc2
      refine C.exit ?_
      refine C.seq ?_
      refine C.region ?_
      refine G.assignB rfl trivial rfl rfl rfl ?_
      refine G.nil ?_
      refine C.ret ?_
      -- end g33Tc2F
      exact ⟨rfl, _, Res.of (rs := [.tmp 2]) rfl rfl, rfl⟩
  · intro hg33
    refine G.skip rfl rfl rfl rfl rfl rfl ?_
    refine G.skip rfl rfl rfl rfl rfl rfl ?_
    first | refine G.pickT rfl trivial rfl rfl rfl rfl ?_ | refine G.pickF rfl trivial rfl rfl rfl rfl ?_
    refine G.nil ?_
    refine C.condF rfl ?_
    refine C.exit ?_
    refine C.seq ?_
    refine C.region ?_
    refine G.assignB rfl trivial rfl rfl rfl ?_
    refine G.nil ?_
    refine C.ret ?_
    -- end g33F
    exact ⟨rfl, _, Res.of (rs := [.tmp 2]) rfl rfl, rfl⟩
end Go.Proofs.Ytjfjmhmfhkdcbab
