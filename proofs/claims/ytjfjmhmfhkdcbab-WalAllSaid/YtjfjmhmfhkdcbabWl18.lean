/-
  WalAll: a crash, and the log opened anew; walked.
-/
import Derived.Test.YtjfjmhmfhkdcbabWl17
namespace Go.Proofs.Ytjfjmhmfhkdcbab
open Go Go.SL Go.RowKit

/-- an operation as it came in -/
structure WOp where
  kd : Int
  to : Int
  big : Int
  ba : Option Addr
  bc : Nat
  bs : List UInt8
  fuse : Int
  ka : Option Addr
  kc : Nat
  ks : List Bool
instance : Inhabited WOp := ⟨⟨0, 0, 0, none, 0, [], 0, none, 0, []⟩⟩
abbrev wopC (o : WOp) : List Value := [.int .i64 o.kd, .int .i64 o.to, .int .i64 o.big, .slice o.ba o.bs.length o.bc, .int .i64 o.fuse, .slice o.ka o.ks.length o.kc]
theorem Wd.setFuse {d : Dv} {p : Sp} {t base : Nat} {xs : List UInt8} (h : Wd d p t base xs) {n : Int} (hn : n ≤ 9223372036854775807) : Wd (d.setFuse n) p t base xs := by
  have hl : (d.setFuse n).l = d.l := rfl
  have h1 : ∀ j, nowAt (d.setFuse n) j = nowAt d j := fun j => by unfold nowAt; rw [hl]
  have h2 : ∀ j, lastAt (d.setFuse n) j = lastAt d j := fun j => by unfold lastAt; rw [hl]
  exact ⟨Dv.setFuse_ok h.ok hn, by rw [hl]; exact h.len, h.sl.congr (h1 _) (h1 _), h.pa, h.text, fun k hk => by rw [h1, h2]; exact h.quiet k hk, h.now.congr (fun p => by unfold dby; rw [h1]), h.last.congr (fun p => by unfold lby; rw [h2])⟩
theorem size_take_mono (W : List (List UInt8)) {i j : Nat} (h : i ≤ j) : size (W.take i) ≤ size (W.take j) := by
  have h1 := size_take_le (W.take j) i
  rw [List.take_take, Nat.min_eq_left h] at h1
  exact h1
theorem size_take_lt (W : List (List UInt8)) {i j : Nat} (h : i < j) (hj : j ≤ W.length) : size (W.take i) < size (W.take j) := by
  have h1 := size_take_mono W (show i + 1 ≤ j from h)
  rw [List.take_succ_eq_append_getElem (show i < W.length by omega), size_append, size_cons, size_nil] at h1
  omega
theorem Mem.book1 {W0 w : World} {s' s0 s1 sg sp dv bo b4 b5 ws x1 x2 dv2 : Seg} {x : Nat × SObj} {L0 : List Seg} (h : Mem W0 w (s' :: s0 :: s1 :: sg :: sp :: dv :: bo :: b4 :: b5 :: (x :: ws) :: x1 :: x2 :: dv2 :: L0)) : Mem W0 w (b4 :: b5 :: (x :: s') :: sg :: sp :: dv :: L0) := by
  have h1 : Mem W0 w ((x :: ws) :: s' :: s0 :: s1 :: sg :: sp :: dv :: bo :: b4 :: b5 :: x1 :: x2 :: dv2 :: L0) := Mem.rot [s', s0, s1, sg, sp, dv, bo, b4, b5] [x :: ws] h
  have h2 : Mem W0 w ([x] :: s' :: s0 :: s1 :: sg :: sp :: dv :: bo :: b4 :: b5 :: x1 :: x2 :: dv2 :: L0) := (Mem.split1 h1).tail
  have h3 : Mem W0 w ((x :: s') :: s0 :: s1 :: sg :: sp :: dv :: bo :: b4 :: b5 :: x1 :: x2 :: dv2 :: L0) := h2.join
  have h4 : Mem W0 w (b4 :: b5 :: (x :: s') :: s0 :: s1 :: sg :: sp :: dv :: bo :: x1 :: x2 :: dv2 :: L0) := Mem.rot [x :: s', s0, s1, sg, sp, dv, bo] [b4, b5] h3
  have h5 : Mem W0 w (s0 :: s1 :: b4 :: b5 :: (x :: s') :: sg :: sp :: dv :: bo :: x1 :: x2 :: dv2 :: L0) := Mem.rot [b4, b5, x :: s'] [s0, s1] h4
  have h6 : Mem W0 w (bo :: x1 :: x2 :: dv2 :: b4 :: b5 :: (x :: s') :: sg :: sp :: dv :: L0) := Mem.rot [b4, b5, x :: s', sg, sp, dv] [bo, x1, x2, dv2] h5.tail.tail
  exact h6.tail.tail.tail.tail
section
variable (W0 : World) (L0 : List Seg) (b4 b5 bK bg bs bd bl base T : Nat) (fs us : List (List UInt8)) (d : Dv) (sg sp sgK : Seg)
theorem crashW_spec (o : WOp) (hks : o.ks.length ≤ o.kc) (hfz : o.fuse ≤ 9223372036854775807) (hto : -9223372036854775808 ≤ o.to ∧ o.to ≤ 9223372036854775807) (hr : ∀ L, Rd W0 L o.ka (o.ks.map Value.bool)) (hw : WA bg bs bd base fs us T d sg sp) (hbk : BkIs bK base (fs ++ us) (base + size fs) sgK) (hbig : base < 800000000000) (hT : T < 999000) :
    FnS Try.prog W0 8 #[ptr b4, ptr b5, ptr bK, .agg (wopC o).toArray] ([(b4, .row [ptr bd] 24 1)] :: [(b5, .row [ptr bg] 26 1)] :: sgK :: sg :: sp :: devSeg bd bl d :: L0)
      (fun r L' => ∃ bg' bs' bd' bl' base' fs' d' sg' sp' sgK', L' = [(b4, .row [ptr bd'] 24 1)] :: [(b5, .row [ptr bg'] 26 1)] :: sgK' :: sg' :: sp' :: devSeg bd' bl' d' :: L0 ∧ WA bg' bs' bd' base' fs' [] (T + 2) d' sg' sp' ∧ BkIs bK base' fs' (base' + size fs') sgK' ∧ base' + size fs' ≤ base + size fs + size us ∧ r = .returned (.bool true)) := by
  obtain ⟨g, p, t, ht, hgb, hlg, hlok, hsp, hwd, hlv⟩ := hw
  have hbk0 := hbk
  obtain ⟨v, ws, hv, rfl⟩ := hbk
  have e1 := hlok.forced
  have e2 := hlok.end_
  have e3 := hlok.room
  have hsR : size (fs ++ us) = size fs + size us := size_append fs us
  have hRl : (fs ++ us).length ≤ 1000000 := by have := length_le_size (fs ++ us); omega
  have htq : (fs ++ us).take fs.length = fs := List.take_left
  obtain ⟨a0, c0, rfl, hr0⟩ := hv.form
  have hcap := hv.cap
  have hwf := hwd.setFuse hfz
  refine FnS.of (args := [ptr b4, ptr b5, ptr bK, .agg (wopC o).toArray]) Try.func8 rfl rfl ?_
  refine C.seq ?_
  refine C.region ?_
  refine G.boxG rfl trivial rfl rfl rfl ?_
  intro bo
  refine G.assignB rfl trivial rfl rfl rfl ?_
  refine G.nil ?_
  refine C.seq ?_
  refine C.drawn mixed (_) [] (fun _ h => h) ?_
  refine GA.pure (i := 0) (fun _ _ _ _ _ h => h) rfl (by kernel_rfl) trivial rfl rfl (Y.moveP rfl rfl) (#[true, false, false, false, false, false, false, false, false, false, false, false, false, false, false]) (by kernel_rfl) ?_
  first | refine GA.pure (i := 1) (fun _ _ _ _ _ h => h) rfl (by kernel_rfl) trivial rfl rfl (Y.nilCheckP rfl rfl) (#[true, true, false, false, false, false, false, false, false, false, false, false, false, false, false]) (by kernel_rfl) ?_ | refine GA.pure (i := 1) (fun _ _ _ _ _ h => h) rfl (by kernel_rfl) trivial rfl rfl (Y.nilCheckF rfl rfl) (#[true, true, false, false, false, false, false, false, false, false, false, false, false, false, false]) (by kernel_rfl) ?_
  refine GA.pure (i := 2) (fun _ _ _ _ _ h => h) rfl (by kernel_rfl) trivial rfl rfl (Y.fieldAddr rfl Try.underlying33 rfl I31 rfl rfl) (#[true, true, true, false, false, false, false, false, false, false, false, false, false, false, false]) (by kernel_rfl) ?_
  refine GA.read (i := 3) (fun _ _ _ _ _ h => h) rfl (by kernel_rfl) (by kernel_rfl) trivial rfl rfl (Y.loadAt (by first | exact .here | exact .next .here | exact .next (.next .here) | exact .next (.next (.next .here)) | exact .next (.next (.next (.next .here))) | exact .next (.next (.next (.next (.next .here)))) | exact .next (.next (.next (.next (.next (.next .here))))) | exact .next (.next (.next (.next (.next (.next (.next .here)))))) | exact .in1 | exact .next .in1 | exact .next (.next .in1) | exact .next (.next (.next .in1)) | exact .next (.next (.next (.next .in1))) | exact .in2 | exact .next .in2 | exact .next (.next .in2) | exact .next (.next (.next .in2)) | exact .next (.next (.next (.next .in2))) | exact .app .here | exact .app (.next .here) | exact .app (.next (.next .here)) | exact .app (.next (.next (.next .here))) | exact .app (.next (.next (.next (.next .here)))) | exact .app (.next (.next (.next (.next (.next .here))))) | exact .app (.next (.next (.next (.next (.next (.next .here)))))) | exact .app (.next (.next (.next (.next (.next (.next (.next .here))))))) | exact .app .in1 | exact .app .in2 | exact .app (.next .in1) | exact .next (.app .in1) | exact .next (.next (.app .in1)) | exact .next (.app .here) | exact .next (.next (.app .here)) | exact .next (.next (.next (.app .here))) | exact .next (.next (.next (.next (.app .here))))) rfl Try.underlying31 rfl rfl (by rfl)) (#[true, true, true, true, false, false, false, false, false, false, false, false, false, false, false]) (by kernel_rfl) ?_
  refine GA.pure (i := 4) (fun _ _ _ _ _ h => h) rfl (by kernel_rfl) trivial rfl rfl (Y.moveP rfl rfl) (#[true, true, true, true, true, false, false, false, false, false, false, false, false, false, false]) (by kernel_rfl) ?_
  first | refine GA.pure (i := 5) (fun _ _ _ _ _ h => h) rfl (by kernel_rfl) trivial rfl rfl (Y.nilCheckP rfl rfl) (#[true, true, true, true, true, true, false, false, false, false, false, false, false, false, false]) (by kernel_rfl) ?_ | refine GA.pure (i := 5) (fun _ _ _ _ _ h => h) rfl (by kernel_rfl) trivial rfl rfl (Y.nilCheckF rfl rfl) (#[true, true, true, true, true, true, false, false, false, false, false, false, false, false, false]) (by kernel_rfl) ?_
  refine GA.pure (i := 6) (fun _ _ _ _ _ h => h) rfl (by kernel_rfl) trivial rfl rfl (Y.fieldAddr rfl Try.underlying33 rfl I2 rfl rfl) (#[true, true, true, true, true, true, true, false, false, false, false, false, false, false, false]) (by kernel_rfl) ?_
  refine GA.read (i := 7) (fun _ _ _ _ _ h => h) rfl (by kernel_rfl) (by kernel_rfl) trivial rfl rfl (Y.loadAt (by first | exact .here | exact .next .here | exact .next (.next .here) | exact .next (.next (.next .here)) | exact .next (.next (.next (.next .here))) | exact .next (.next (.next (.next (.next .here)))) | exact .next (.next (.next (.next (.next (.next .here))))) | exact .next (.next (.next (.next (.next (.next (.next .here)))))) | exact .in1 | exact .next .in1 | exact .next (.next .in1) | exact .next (.next (.next .in1)) | exact .next (.next (.next (.next .in1))) | exact .in2 | exact .next .in2 | exact .next (.next .in2) | exact .next (.next (.next .in2)) | exact .next (.next (.next (.next .in2))) | exact .app .here | exact .app (.next .here) | exact .app (.next (.next .here)) | exact .app (.next (.next (.next .here))) | exact .app (.next (.next (.next (.next .here)))) | exact .app (.next (.next (.next (.next (.next .here))))) | exact .app (.next (.next (.next (.next (.next (.next .here)))))) | exact .app (.next (.next (.next (.next (.next (.next (.next .here))))))) | exact .app .in1 | exact .app .in2 | exact .app (.next .in1) | exact .next (.app .in1) | exact .next (.next (.app .in1)) | exact .next (.app .here) | exact .next (.next (.app .here)) | exact .next (.next (.next (.app .here))) | exact .next (.next (.next (.next (.app .here))))) rfl Try.underlying2 rfl rfl (by rfl)) (#[true, true, true, true, true, true, true, true, false, false, false, false, false, false, false]) (by kernel_rfl) ?_
  refine GA.pure (i := 8) (fun _ _ _ _ _ h => h) rfl (by kernel_rfl) trivial rfl rfl (Y.moveP rfl rfl) (#[true, true, true, true, true, true, true, true, true, false, false, false, false, false, false]) (by kernel_rfl) ?_
  first | refine GA.pure (i := 9) (fun _ _ _ _ _ h => h) rfl (by kernel_rfl) trivial rfl rfl (Y.nilCheckP rfl rfl) (#[true, true, true, true, true, true, true, true, true, true, false, false, false, false, false]) (by kernel_rfl) ?_ | refine GA.pure (i := 9) (fun _ _ _ _ _ h => h) rfl (by kernel_rfl) trivial rfl rfl (Y.nilCheckF rfl rfl) (#[true, true, true, true, true, true, true, true, true, true, false, false, false, false, false]) (by kernel_rfl) ?_
  refine GA.pure (i := 10) (fun _ _ _ _ _ h => h) rfl (by kernel_rfl) trivial rfl rfl (Y.fieldAddr rfl Try.underlying33 rfl I2 rfl rfl) (#[true, true, true, true, true, true, true, true, true, true, true, false, false, false, false]) (by kernel_rfl) ?_
  refine GA.read (i := 11) (fun _ _ _ _ _ h => h) rfl (by kernel_rfl) (by kernel_rfl) trivial rfl rfl (Y.loadAt (by first | exact .here | exact .next .here | exact .next (.next .here) | exact .next (.next (.next .here)) | exact .next (.next (.next (.next .here))) | exact .next (.next (.next (.next (.next .here)))) | exact .next (.next (.next (.next (.next (.next .here))))) | exact .next (.next (.next (.next (.next (.next (.next .here)))))) | exact .in1 | exact .next .in1 | exact .next (.next .in1) | exact .next (.next (.next .in1)) | exact .next (.next (.next (.next .in1))) | exact .in2 | exact .next .in2 | exact .next (.next .in2) | exact .next (.next (.next .in2)) | exact .next (.next (.next (.next .in2))) | exact .app .here | exact .app (.next .here) | exact .app (.next (.next .here)) | exact .app (.next (.next (.next .here))) | exact .app (.next (.next (.next (.next .here)))) | exact .app (.next (.next (.next (.next (.next .here))))) | exact .app (.next (.next (.next (.next (.next (.next .here)))))) | exact .app (.next (.next (.next (.next (.next (.next (.next .here))))))) | exact .app .in1 | exact .app .in2 | exact .app (.next .in1) | exact .next (.app .in1) | exact .next (.next (.app .in1)) | exact .next (.app .here) | exact .next (.next (.app .here)) | exact .next (.next (.next (.app .here))) | exact .next (.next (.next (.next (.app .here))))) rfl Try.underlying2 rfl rfl (by rfl)) (#[true, true, true, true, true, true, true, true, true, true, true, true, false, false, false]) (by kernel_rfl) ?_
  refine GA.pure (i := 12) (fun _ _ _ _ _ h => h) rfl (by kernel_rfl) trivial rfl rfl (Y.assignS rfl rfl) (#[true, true, true, true, true, true, true, true, true, true, true, true, true, false, false]) (by kernel_rfl) ?_
  refine GA.pure (i := 13) (fun _ _ _ _ _ h => h) rfl (by kernel_rfl) trivial rfl rfl (Y.assignI rfl rfl) (#[true, true, true, true, true, true, true, true, true, true, true, true, true, true, false]) (by kernel_rfl) ?_
  refine GA.pure (i := 14) (fun _ _ _ _ _ h => h) rfl (by kernel_rfl) trivial rfl rfl (Y.assignI rfl rfl) (#[true, true, true, true, true, true, true, true, true, true, true, true, true, true, true]) (by kernel_rfl) ?_
  refine GA.done (by kernel_rfl) ?_
  refine C.seq ?_
  refine C.region ?_
  refine G.assignB rfl trivial rfl rfl rfl ?_
  refine G.nil ?_
  refine C.cut (fun F D' L' => ∃ (W : List (List UInt8)) (B q : Nat) (cut : Bool) (a0 : Option Addr) (c0 : Nat) (kf : Nat) (ws x1 x2 : Seg) (d2 : Dv), OwnS (.slice a0 W.length c0) W.length (recsV B W) 47 2 ws ∧ q ≤ W.length ∧ d2.ok ∧ d2.l.length = 1410 ∧ recsOk W ∧ size W ≤ 65536 ∧ B + size W = base + size fs + size us ∧ (∀ ks, ∃ p t, t ≤ T + 2 ∧ ((∃ n, (n = q ∨ n = W.length) ∧ Wd (d2.crash ks) p t B (strm (W.take n))) ∨ (cut = true ∧ Wd (d2.crash ks) p t (B + size W) []))) ∧ F 7 = ptr bo ∧ F 0 = ptr b4 ∧ F 1 = ptr b5 ∧ F 2 = ptr bK ∧ F 9 = .slice a0 W.length c0 ∧ F 10 = .int .i64 (B : Int) ∧ F 11 = .int .i64 ((B + size (W.take q) : Nat) : Int) ∧ F 12 = .bool cut ∧ D' = [] ∧ [(bo, .row (wopC o) 37 6)] :: [(b4, .row [ptr bd] 24 1)] :: [(b5, .row [ptr bg] 26 1)] :: ((bK, .row [.slice a0 W.length c0, .int .i64 (B : Int), .int .i64 (kf : Int)] 33 3) :: ws) :: x1 :: x2 :: devSeg bd bl d2 :: L0 = L') ?_ ?_
  ·
    refine C.seq ?_
    refine C.region ?_
    refine G.fieldAddr rfl trivial rfl rfl Try.underlying37 rfl I3 rfl rfl ?_
    refine G.loadAt (by first | exact .here | exact .next .here | exact .next (.next .here) | exact .next (.next (.next .here)) | exact .next (.next (.next (.next .here))) | exact .next (.next (.next (.next (.next .here)))) | exact .next (.next (.next (.next (.next (.next .here))))) | exact .next (.next (.next (.next (.next (.next (.next .here)))))) | exact .in1 | exact .next .in1 | exact .next (.next .in1) | exact .next (.next (.next .in1)) | exact .next (.next (.next (.next .in1))) | exact .in2 | exact .next .in2 | exact .next (.next .in2) | exact .next (.next (.next .in2)) | exact .next (.next (.next (.next .in2))) | exact .app .here | exact .app (.next .here) | exact .app (.next (.next .here)) | exact .app (.next (.next (.next .here))) | exact .app (.next (.next (.next (.next .here)))) | exact .app (.next (.next (.next (.next (.next .here))))) | exact .app (.next (.next (.next (.next (.next (.next .here)))))) | exact .app (.next (.next (.next (.next (.next (.next (.next .here))))))) | exact .app .in1 | exact .app .in2 | exact .app (.next .in1) | exact .next (.app .in1) | exact .next (.next (.app .in1)) | exact .next (.app .here) | exact .next (.next (.app .here)) | exact .next (.next (.next (.app .here))) | exact .next (.next (.next (.next (.app .here))))) rfl trivial rfl rfl Try.underlying3 rfl rfl (by rfl) ?_
    refine G.bin rfl trivial rfl rfl rfl rfl rfl ?_
    refine G.nil ?_
    refine C.cond _ rfl ?_ ?_
    · intro hc0
      refine C.seq ?_
      refine C.drawn mixed ([_, _]) [] (fun _ h => Mem.keepN [_, _] h) ?_
      refine GA.pure (i := 0) (fun _ _ _ _ _ h => h) rfl (by kernel_rfl) trivial rfl rfl (Y.moveP rfl rfl) (#[true, false, false, false, false, false]) (by kernel_rfl) ?_
      first | refine GA.pure (i := 1) (fun _ _ _ _ _ h => h) rfl (by kernel_rfl) trivial rfl rfl (Y.nilCheckP rfl rfl) (#[true, true, false, false, false, false]) (by kernel_rfl) ?_ | refine GA.pure (i := 1) (fun _ _ _ _ _ h => h) rfl (by kernel_rfl) trivial rfl rfl (Y.nilCheckF rfl rfl) (#[true, true, false, false, false, false]) (by kernel_rfl) ?_
      refine GA.read (i := 2) (fun _ _ _ _ _ h => h) rfl (by kernel_rfl) (by kernel_rfl) trivial rfl rfl (Y.loadAt (v := ptr bd) (.next .here) rfl Try.underlying24 rfl rfl rfl) (#[true, true, true, false, false, false]) (by kernel_rfl) ?_
      refine GA.pure (i := 3) (fun _ _ _ _ _ h => h) rfl (by kernel_rfl) trivial rfl rfl (Y.fieldAddr rfl Try.underlying37 rfl I3 rfl rfl) (#[true, true, true, true, false, false]) (by kernel_rfl) ?_
      refine GA.read (i := 4) (fun _ _ _ _ _ h => h) rfl (by kernel_rfl) (by kernel_rfl) trivial rfl rfl (Y.loadAt (by first | exact .here | exact .next .here | exact .next (.next .here) | exact .next (.next (.next .here)) | exact .next (.next (.next (.next .here))) | exact .next (.next (.next (.next (.next .here)))) | exact .next (.next (.next (.next (.next (.next .here))))) | exact .next (.next (.next (.next (.next (.next (.next .here)))))) | exact .in1 | exact .next .in1 | exact .next (.next .in1) | exact .next (.next (.next .in1)) | exact .next (.next (.next (.next .in1))) | exact .in2 | exact .next .in2 | exact .next (.next .in2) | exact .next (.next (.next .in2)) | exact .next (.next (.next (.next .in2))) | exact .app .here | exact .app (.next .here) | exact .app (.next (.next .here)) | exact .app (.next (.next (.next .here))) | exact .app (.next (.next (.next (.next .here)))) | exact .app (.next (.next (.next (.next (.next .here))))) | exact .app (.next (.next (.next (.next (.next (.next .here)))))) | exact .app (.next (.next (.next (.next (.next (.next (.next .here))))))) | exact .app .in1 | exact .app .in2 | exact .app (.next .in1) | exact .next (.app .in1) | exact .next (.next (.app .in1)) | exact .next (.app .here) | exact .next (.next (.app .here)) | exact .next (.next (.next (.app .here))) | exact .next (.next (.next (.next (.app .here))))) rfl Try.underlying3 rfl rfl (by rfl)) (#[true, true, true, true, true, false]) (by kernel_rfl) ?_
      refine GA.one (i := 5) rfl (by kernel_rfl) (#[true, true, true, true, true, true]) (by kernel_rfl) ?_
      refine G.call E23 rfl rfl trivial rfl rfl (fuse_spec W0 [_, _, _, _, _, _] _ bd bl d o.fuse) rfl ?_
      rintro e L2 ⟨rfl, rfl⟩
      refine G.nil ?_
      refine ⟨fun _ _ h => Mem.keepN [_, _] h, ?_⟩
      refine GA.done (by kernel_rfl) ?_
      refine C.seq ?_
      refine C.region ?_
      refine G.fieldAddr rfl trivial rfl rfl Try.underlying37 rfl I3 rfl rfl ?_
      refine G.loadAt (by first | exact .here | exact .next .here | exact .next (.next .here) | exact .next (.next (.next .here)) | exact .next (.next (.next (.next .here))) | exact .next (.next (.next (.next (.next .here)))) | exact .next (.next (.next (.next (.next (.next .here))))) | exact .next (.next (.next (.next (.next (.next (.next .here)))))) | exact .in1 | exact .next .in1 | exact .next (.next .in1) | exact .next (.next (.next .in1)) | exact .next (.next (.next (.next .in1))) | exact .in2 | exact .next .in2 | exact .next (.next .in2) | exact .next (.next (.next .in2)) | exact .next (.next (.next (.next .in2))) | exact .app .here | exact .app (.next .here) | exact .app (.next (.next .here)) | exact .app (.next (.next (.next .here))) | exact .app (.next (.next (.next (.next .here)))) | exact .app (.next (.next (.next (.next (.next .here))))) | exact .app (.next (.next (.next (.next (.next (.next .here)))))) | exact .app (.next (.next (.next (.next (.next (.next (.next .here))))))) | exact .app .in1 | exact .app .in2 | exact .app (.next .in1) | exact .next (.app .in1) | exact .next (.next (.app .in1)) | exact .next (.app .here) | exact .next (.next (.app .here)) | exact .next (.next (.next (.app .here))) | exact .next (.next (.next (.next (.app .here))))) rfl trivial rfl rfl Try.underlying3 rfl rfl (by rfl) ?_
      refine G.rem rfl trivial rfl rfl rfl rfl (by omega) ?_
      refine G.bin rfl trivial rfl rfl rfl rfl rfl ?_
      refine G.nil ?_
      refine C.cond _ rfl ?_ ?_
      · intro hc1
        refine C.seq ?_
        refine C.drawn mixed ([_]) [] (fun _ h => Mem.only h.tail.tail) ?_
        refine GA.pure (i := 0) (fun _ _ _ _ _ h => h) rfl (by kernel_rfl) trivial rfl rfl (Y.moveP rfl rfl) (#[true, false, false, false, false, false, false]) (by kernel_rfl) ?_
        first | refine GA.pure (i := 1) (fun _ _ _ _ _ h => h) rfl (by kernel_rfl) trivial rfl rfl (Y.nilCheckP rfl rfl) (#[true, true, false, false, false, false, false]) (by kernel_rfl) ?_ | refine GA.pure (i := 1) (fun _ _ _ _ _ h => h) rfl (by kernel_rfl) trivial rfl rfl (Y.nilCheckF rfl rfl) (#[true, true, false, false, false, false, false]) (by kernel_rfl) ?_
        refine GA.read (i := 2) (fun _ _ _ _ _ h => h) rfl (by kernel_rfl) (by kernel_rfl) trivial rfl rfl (Y.loadAt (v := ptr bg) .here rfl Try.underlying26 rfl rfl rfl) (#[true, true, true, false, false, false, false]) (by kernel_rfl) ?_
        refine GA.pure (i := 3) (fun _ _ _ _ _ h => h) rfl (by kernel_rfl) trivial rfl rfl (Y.moveP rfl rfl) (#[true, true, true, true, false, false, false]) (by kernel_rfl) ?_
        refine GA.one (i := 4) rfl (by kernel_rfl) (#[true, true, true, true, true, false, false]) (by kernel_rfl) ?_
        refine G.call E9 rfl rfl trivial rfl rfl (kend_spec W0 [_, _, _] _ bK base (base + size fs) (fs ++ us) _ hbk0 hRl (by omega)) rfl ?_
        rintro e L2 ⟨rfl, rfl⟩
        refine G.nil ?_
        refine ⟨fun _ _ h => Mem.only h.tail.tail, ?_⟩
        refine GA.less (fun _ h => Mem.rot [_, _, _, _] [_, _, _] h) ?_
        refine GA.one (i := 5) rfl (by kernel_rfl) (#[true, true, true, true, true, true, false]) (by kernel_rfl) ?_
        refine G.call E12 rfl rfl trivial rfl rfl (force_spec W0 _ bg bs bd bl g sg hlg fs us hlok (d.setFuse o.fuse) p sp hsp t (by omega) (hgb ▸ hwf) (by omega) (base + size (fs ++ us))) rfl ?_
        rintro e L2 ⟨sg3, sp3, d3, e3, n, rfl, hn, hfar, hmore, ⟨hlv3, hcase⟩, rfl⟩
        refine G.less (fun _ h => Mem.rot [_, _, _] [_, _, _, _] h) ?_
        have hnu : n = us.length := by
          rcases Nat.lt_or_ge n us.length with h | h
          · have h1 := hmore h
            have h2 := size_take_le us (n + 1)
            omega
          · omega
        subst hnu
        rw [List.take_length, hgb] at hcase
        refine G.nil ?_
        refine ⟨fun _ _ h => Mem.only h.tail.tail, ?_⟩
        refine GA.pure (i := 6) (fun _ _ _ _ _ h => h) rfl (by kernel_rfl) trivial rfl rfl (Y.assignI rfl rfl) (#[true, true, true, true, true, true, true]) (by kernel_rfl) ?_
        refine GA.done (by kernel_rfl) ?_
        refine C.seq ?_
        refine C.region ?_
        refine G.moveI rfl trivial rfl rfl rfl ?_
        refine G.bin rfl trivial rfl rfl rfl rfl rfl ?_
        refine G.nil ?_
        refine C.cond _ rfl ?_ ?_
        · intro hc2
          obtain ⟨he, p1, t1, ht1, ht2, hsg1, hsp1, hok1, hw1⟩ := hcase.resolve_right (fun h => by have := h.1; omega)
          refine C.region ?_
          refine G.moveP rfl trivial rfl rfl rfl ?_
          refine G.call E9 rfl rfl trivial rfl rfl (kend_spec W0 [_, _, _] _ bK base (base + size fs) (fs ++ us) _ hbk0 hRl (by omega)) rfl ?_
          rintro e L2 ⟨rfl, rfl⟩
          refine G.assignI rfl trivial rfl rfl rfl ?_
          refine G.nil ?_
          exact ⟨fs ++ us, base, (fs ++ us).length, false, a0, c0, base + size fs, ws, _, _, d3, hv, Nat.le_refl _, hw1.ok, hw1.len, hlok.recs, by omega, by omega, fun ks => ⟨p1, t1, by omega, .inl ⟨_, .inl rfl, by rw [List.take_length]; exact hw1.crash ks⟩⟩, rfl, rfl, rfl, rfl, rfl, rfl, by rw [List.take_length]; rfl, rfl, rfl, rfl⟩
        · intro hc2
          obtain ⟨he, hn0, q1, q2, q3, q4, q5⟩ := hcase.resolve_left (fun h => hc2 h.1)
          refine C.seq ?_
          refine C.drawn mixed ([_]) [] (fun _ h => Mem.only h.tail.tail) ?_
          refine GA.pure (i := 0) (fun _ _ _ _ _ h => h) rfl (by kernel_rfl) trivial rfl rfl (Y.moveI rfl rfl) (#[true, false, false, false, false, false, false, false, false, false, false, false, false, false, false, false, false, false]) (by kernel_rfl) ?_
          refine GA.pure (i := 1) (fun _ _ _ _ _ h => h) rfl (by kernel_rfl) trivial rfl rfl (Y.bin rfl rfl rfl rfl) (#[true, true, false, false, false, false, false, false, false, false, false, false, false, false, false, false, false, false]) (by kernel_rfl) ?_
          refine GA.pure (i := 2) (fun _ _ _ _ _ h => h) rfl (by kernel_rfl) trivial rfl rfl (Y.moveB rfl rfl) (#[true, true, true, false, false, false, false, false, false, false, false, false, false, false, false, false, false, false]) (by kernel_rfl) ?_
          refine GA.no (t := 57) rfl (by omega) ?_
          refine GA.pure (i := 3) (fun _ _ _ _ _ h => h) rfl (by kernel_rfl) ⟨_, rfl, rfl, rfl⟩ rfl rfl (Y.moveP rfl rfl) (#[true, true, true, true, false, false, false, false, false, false, false, false, false, false, false, false, false, false]) (by kernel_rfl) ?_
          first | refine GA.pure (i := 4) (fun _ _ _ _ _ h => h) rfl (by kernel_rfl) ⟨_, rfl, rfl, rfl⟩ rfl rfl (Y.nilCheckP rfl rfl) (#[true, true, true, true, true, false, false, false, false, false, false, false, false, false, false, false, false, false]) (by kernel_rfl) ?_ | refine GA.pure (i := 4) (fun _ _ _ _ _ h => h) rfl (by kernel_rfl) ⟨_, rfl, rfl, rfl⟩ rfl rfl (Y.nilCheckF rfl rfl) (#[true, true, true, true, true, false, false, false, false, false, false, false, false, false, false, false, false, false]) (by kernel_rfl) ?_
          refine GA.read (i := 5) (fun _ _ _ _ _ h => h) rfl (by kernel_rfl) (by kernel_rfl) ⟨_, rfl, rfl, rfl⟩ rfl rfl (Y.loadAt (v := ptr bg) .here rfl Try.underlying26 rfl rfl rfl) (#[true, true, true, true, true, true, false, false, false, false, false, false, false, false, false, false, false, false]) (by kernel_rfl) ?_
          refine GA.pure (i := 6) (fun _ _ _ _ _ h => h) rfl (by kernel_rfl) ⟨_, rfl, rfl, rfl⟩ rfl rfl (Y.moveP rfl rfl) (#[true, true, true, true, true, true, true, false, false, false, false, false, false, false, false, false, false, false]) (by kernel_rfl) ?_
          refine GA.one (i := 7) rfl (by kernel_rfl) (#[true, true, true, true, true, true, true, true, false, false, false, false, false, false, false, false, false, false]) (by kernel_rfl) ?_
          refine G.call E9 rfl rfl ⟨_, rfl, rfl, rfl⟩ rfl rfl (kend_spec W0 [_, _, _] _ bK base (base + size fs) (fs ++ us) _ hbk0 hRl (by omega)) rfl ?_
          rintro e L2 ⟨rfl, rfl⟩
          refine G.nil ?_
          refine ⟨fun _ _ h => Mem.only h.tail.tail, ?_⟩
          refine GA.pure (i := 8) (fun _ _ _ _ _ h => h) rfl (by kernel_rfl) ⟨_, rfl, rfl, rfl⟩ rfl rfl (Y.add rfl rfl rfl (by omega)) (#[true, true, true, true, true, true, true, true, true, false, false, false, false, false, false, false, false, false]) (by kernel_rfl) ?_
          refine GA.one (i := 9) rfl (by kernel_rfl) (#[true, true, true, true, true, true, true, true, true, true, false, false, false, false, false, false, false, false]) (by kernel_rfl) ?_
          refine G.call E12 rfl rfl ⟨_, rfl, rfl, rfl⟩ rfl rfl (force_bad W0 [_, _, _, _] _ bg bs bd _ sg3 q2 rfl _) rfl ?_
          rintro e L2 ⟨rfl, rfl⟩
          refine G.nil ?_
          refine ⟨fun _ _ h => Mem.only h.tail.tail, ?_⟩
          refine GA.pure (i := 10) (fun _ _ _ _ _ h => h) rfl (by kernel_rfl) ⟨_, rfl, rfl, rfl⟩ rfl rfl (Y.bin rfl rfl rfl rfl) (#[true, true, true, true, true, true, true, true, true, true, true, false, false, false, false, false, false, false]) (by kernel_rfl) ?_
          refine GA.pure (i := 11) (fun _ _ _ _ _ h => h) rfl (by kernel_rfl) ⟨_, rfl, rfl, rfl⟩ rfl rfl (Y.moveB rfl rfl) (#[true, true, true, true, true, true, true, true, true, true, true, true, false, false, false, false, false, false]) (by kernel_rfl) ?_
          refine GA.no (t := 66) rfl (by simp) ?_
          refine GA.skip (i := 12) (fun _ _ _ _ _ h => h) rfl (by kernel_rfl) rfl rfl rfl rfl rfl rfl (#[true, true, true, true, true, true, true, true, true, true, true, true, true, false, false, false, false, false]) (by kernel_rfl) ?_
          refine GA.skip (i := 13) (fun _ _ _ _ _ h => h) rfl (by kernel_rfl) rfl rfl rfl rfl rfl rfl (#[true, true, true, true, true, true, true, true, true, true, true, true, true, true, false, false, false, false]) (by kernel_rfl) ?_
          refine GA.skip (i := 14) (fun _ _ _ _ _ h => h) rfl (by kernel_rfl) rfl rfl rfl rfl rfl rfl (#[true, true, true, true, true, true, true, true, true, true, true, true, true, true, true, false, false, false]) (by kernel_rfl) ?_
          refine GA.skip (i := 15) (fun _ _ _ _ _ h => h) rfl (by kernel_rfl) rfl rfl rfl rfl rfl rfl (#[true, true, true, true, true, true, true, true, true, true, true, true, true, true, true, true, false, false]) (by kernel_rfl) ?_
          first | refine GA.pure (i := 16) (fun _ _ _ _ _ h => h) rfl (by kernel_rfl) ⟨_, rfl, rfl, rfl⟩ rfl rfl (Y.pickT rfl rfl rfl) (#[true, true, true, true, true, true, true, true, true, true, true, true, true, true, true, true, true, false]) (by kernel_rfl) ?_ | refine GA.pure (i := 16) (fun _ _ _ _ _ h => h) rfl (by kernel_rfl) ⟨_, rfl, rfl, rfl⟩ rfl rfl (Y.pickF rfl rfl rfl) (#[true, true, true, true, true, true, true, true, true, true, true, true, true, true, true, true, true, false]) (by kernel_rfl) ?_
          first | refine GA.pure (i := 17) (fun _ _ _ _ _ h => h) rfl (by kernel_rfl) trivial rfl rfl (Y.pickT rfl rfl rfl) (#[true, true, true, true, true, true, true, true, true, true, true, true, true, true, true, true, true, true]) (by kernel_rfl) ?_ | refine GA.pure (i := 17) (fun _ _ _ _ _ h => h) rfl (by kernel_rfl) trivial rfl rfl (Y.pickF rfl rfl rfl) (#[true, true, true, true, true, true, true, true, true, true, true, true, true, true, true, true, true, true]) (by kernel_rfl) ?_
          refine GA.fix (d := 72) (v := .bool false) rfl ?_
          refine GA.done (by kernel_rfl) ?_
          refine C.condF rfl ?_
          refine C.skip ?_
          exact ⟨fs ++ us, base, fs.length, false, a0, c0, base + size fs, ws, _, _, d3, hv, by simp, q3, q4, hlok.recs, by omega, by omega, fun ks => by (obtain ⟨p2, t2, h1, h2⟩ := q5 ks; exact ⟨p2, t2, by omega, .inl (h2.elim (fun h => ⟨_, .inl rfl, by rw [htq]; exact h⟩) (fun h => ⟨_, .inr rfl, by rw [List.take_length]; exact h⟩))⟩), rfl, rfl, rfl, rfl, rfl, rfl, by rw [htq]; rfl, rfl, rfl, rfl⟩
      · intro hc1
        refine C.seq ?_
        refine C.region ?_
        refine G.assignB rfl trivial rfl rfl rfl ?_
        refine G.nil ?_
        refine C.seq ?_
        refine C.region ?_
        refine G.moveP rfl trivial rfl rfl rfl ?_
        first | refine G.nilCheckP rfl trivial rfl rfl rfl ?_ | refine G.nilCheckF rfl trivial rfl rfl rfl ?_
        refine G.loadAt (v := ptr bg) (.next (.next .here)) rfl trivial rfl rfl Try.underlying26 rfl rfl rfl ?_
        refine G.less (fun _ h => Mem.rot [_, _, _, _] [_, _, _] h) ?_
        refine G.call E14 rfl rfl trivial rfl rfl (cut_spec W0 _ bg bs bd bl g sg hlg fs us hlok (d.setFuse o.fuse) p sp hsp t (by omega) (hgb ▸ hwf) (by omega)) rfl ?_
        rintro e L2 ⟨sg3, sp3, d3, e3, rfl, ⟨hlv3, hcase⟩, rfl⟩
        refine G.less (fun _ h => Mem.rot [_, _, _] [_, _, _, _] h) ?_
        rw [hgb, show g.end_ = base + size (fs ++ us) by omega] at hcase
        refine G.bin rfl trivial rfl rfl rfl rfl rfl ?_
        refine G.nil ?_
        refine C.cond _ rfl ?_ ?_
        · intro hc4
          obtain ⟨he, p1, t1, ht1, hsg1, hsp1, hw1⟩ := hcase.resolve_right (fun h => by have := h.1; omega)
          refine C.region ?_
          refine G.moveP rfl trivial rfl rfl rfl ?_
          refine G.moveP rfl trivial rfl rfl rfl ?_
          refine G.moveP rfl trivial rfl rfl rfl ?_
          refine G.call E9 rfl rfl trivial rfl rfl (kend_spec W0 [_, _, _] _ bK base (base + size fs) (fs ++ us) _ hbk0 hRl (by omega)) rfl ?_
          rintro e L2 ⟨rfl, rfl⟩
          refine G.moveP rfl trivial rfl rfl rfl ?_
          refine G.call E9 rfl rfl trivial rfl rfl (kend_spec W0 [_, _, _] _ bK base (base + size fs) (fs ++ us) _ hbk0 hRl (by omega)) rfl ?_
          rintro e L2 ⟨rfl, rfl⟩
          refine G.moveP rfl trivial rfl rfl rfl ?_
          refine G.call E9 rfl rfl trivial rfl rfl (kend_spec W0 [_, _, _] _ bK base (base + size fs) (fs ++ us) _ hbk0 hRl (by omega)) rfl ?_
          rintro e L2 ⟨rfl, rfl⟩
          first | refine G.nilCheckP rfl trivial rfl rfl rfl ?_ | refine G.nilCheckF rfl trivial rfl rfl rfl ?_
          refine G.fieldAddr rfl trivial rfl rfl Try.underlying33 rfl I2 rfl rfl ?_
          refine G.store (v := .int _ _) (by first | exact .here | exact .next .here | exact .next (.next .here) | exact .next (.next (.next .here)) | exact .next (.next (.next (.next .here))) | exact .next (.next (.next (.next (.next .here)))) | exact .next (.next (.next (.next (.next (.next .here))))) | exact .next (.next (.next (.next (.next (.next (.next .here)))))) | exact .in1 | exact .next .in1 | exact .next (.next .in1) | exact .next (.next (.next .in1)) | exact .next (.next (.next (.next .in1))) | exact .in2 | exact .next .in2 | exact .next (.next .in2) | exact .next (.next (.next .in2)) | exact .next (.next (.next (.next .in2))) | exact .app .here | exact .app (.next .here) | exact .app (.next (.next .here)) | exact .app (.next (.next (.next .here))) | exact .app (.next (.next (.next (.next .here)))) | exact .app (.next (.next (.next (.next (.next .here))))) | exact .app (.next (.next (.next (.next (.next (.next .here)))))) | exact .app (.next (.next (.next (.next (.next (.next (.next .here))))))) | exact .app .in1 | exact .app .in2 | exact .app (.next .in1) | exact .next (.app .in1) | exact .next (.next (.app .in1)) | exact .next (.app .here) | exact .next (.next (.app .here)) | exact .next (.next (.next (.app .here))) | exact .next (.next (.next (.next (.app .here))))) rfl trivial rfl I2 rfl rfl rfl (by first | decide | (simp; done) | (simp; omega)) _ (by first | (simp only [List.set_cons_succ, List.set_cons_zero]; done) | (simp only [List.set_cons_succ, List.set_cons_zero]; exact rfl) | exact rfl) ?_
          first | refine G.nilCheckP rfl trivial rfl rfl rfl ?_ | refine G.nilCheckF rfl trivial rfl rfl rfl ?_
          refine G.fieldAddr rfl trivial rfl rfl Try.underlying33 rfl I31 rfl rfl ?_
          refine G.store (v := .slice _ _ _) (by first | exact .here | exact .next .here | exact .next (.next .here) | exact .next (.next (.next .here)) | exact .next (.next (.next (.next .here))) | exact .next (.next (.next (.next (.next .here)))) | exact .next (.next (.next (.next (.next (.next .here))))) | exact .next (.next (.next (.next (.next (.next (.next .here)))))) | exact .in1 | exact .next .in1 | exact .next (.next .in1) | exact .next (.next (.next .in1)) | exact .next (.next (.next (.next .in1))) | exact .in2 | exact .next .in2 | exact .next (.next .in2) | exact .next (.next (.next .in2)) | exact .next (.next (.next (.next .in2))) | exact .app .here | exact .app (.next .here) | exact .app (.next (.next .here)) | exact .app (.next (.next (.next .here))) | exact .app (.next (.next (.next (.next .here)))) | exact .app (.next (.next (.next (.next (.next .here))))) | exact .app (.next (.next (.next (.next (.next (.next .here)))))) | exact .app (.next (.next (.next (.next (.next (.next (.next .here))))))) | exact .app .in1 | exact .app .in2 | exact .app (.next .in1) | exact .next (.app .in1) | exact .next (.next (.app .in1)) | exact .next (.app .here) | exact .next (.next (.app .here)) | exact .next (.next (.next (.app .here))) | exact .next (.next (.next (.next (.app .here))))) rfl trivial rfl I31 rfl rfl rfl (by first | decide | (simp; done) | (simp; omega)) _ (by first | (simp only [List.set_cons_succ, List.set_cons_zero]; done) | (simp only [List.set_cons_succ, List.set_cons_zero]; exact rfl) | exact rfl) ?_
          refine G.assignI rfl trivial rfl rfl rfl ?_
          refine G.assignS rfl trivial rfl rfl rfl ?_
          refine G.assignI rfl trivial rfl rfl rfl ?_
          refine G.assignB rfl trivial rfl rfl rfl ?_
          refine G.less (fun _ h => Mem.rot [_, _, _] [_] h) ?_
          refine G.less (fun _ h => (Mem.split1 h).tail) ?_
          refine G.less (fun _ h => Mem.rot [_] [_, _, _] h) ?_
          refine G.nil ?_
          exact ⟨[], base + size (fs ++ us), 0, false, none, 0, base + size fs, [], _, _, d3, OwnS.nil _ _, by simp, hw1.ok, hw1.len, fun b hb => by simp at hb, by simp [size_nil], by rw [size_nil]; omega, fun ks => ⟨p1, t1, by omega, .inl ⟨0, .inl rfl, hw1.crash ks⟩⟩, rfl, rfl, rfl, rfl, rfl, rfl, rfl, rfl, rfl, rfl⟩
        · intro hc4
          obtain ⟨he, q1, q3, q4, q5⟩ := hcase.resolve_left (fun h => hc4 h.1)
          refine C.skip ?_
          exact ⟨fs ++ us, base, fs.length, true, a0, c0, base + size fs, ws, _, _, d3, hv, by simp, q3, q4, hlok.recs, by omega, by omega, fun ks => by (obtain ⟨p2, t2, h1, h2⟩ := q5 ks; exact ⟨p2, t2, by omega, h2.elim (fun h => .inl ⟨_, .inl rfl, by rw [htq]; exact h⟩) (fun h => h.elim (fun h => .inl ⟨_, .inr rfl, by rw [List.take_length]; exact h⟩) (fun h => .inr ⟨rfl, h⟩))⟩), rfl, rfl, rfl, rfl, rfl, rfl, by rw [htq]; rfl, rfl, rfl, rfl⟩
    · intro hc0
      refine C.skip ?_
      exact ⟨fs ++ us, base, fs.length, false, a0, c0, base + size fs, ws, sg, sp, d, hv, by simp, hwd.ok, hwd.len, hlok.recs, by omega, by omega, fun ks => ⟨p, t, by omega, .inl ⟨_, .inl rfl, by rw [htq]; exact hwd.crash ks⟩⟩, rfl, rfl, rfl, rfl, rfl, rfl, by rw [htq]; rfl, rfl, rfl, rfl⟩
  ·
    rintro F D' L' ⟨W, B, q, cut, a0, c0, kf, ws, x1, x2, d2, hv, hq, hok2, hln2, hrW, hsW, hend, hall, h7, h0', h1', h2', h9, h10, h11, h12, rfl, rfl⟩
    refine C.fix (d := 7) h7 ?_
    refine C.fix (d := 0) h0' ?_
    refine C.fix (d := 1) h1' ?_
    refine C.fix (d := 2) h2' ?_
    refine C.fix (d := 9) h9 ?_
    refine C.fix (d := 10) h10 ?_
    refine C.fix (d := 11) h11 ?_
    refine C.fix (d := 12) h12 ?_
    refine C.seq ?_
    refine C.drawn mixed ([_, _]) [8] (fun _ h => Mem.keepN [_, _] h) ?_
    refine GA.pure (i := 0) (fun _ _ _ _ _ h => h) rfl (by kernel_rfl) trivial rfl rfl (Y.moveP rfl rfl) (#[true, false, false, false, false, false, false, false, false]) (by kernel_rfl) ?_
    refine GA.pure (i := 1) (fun _ _ _ _ _ h => h) rfl (by kernel_rfl) trivial rfl rfl (Y.moveP rfl rfl) (#[true, true, false, false, false, false, false, false, false]) (by kernel_rfl) ?_
    first | refine GA.pure (i := 2) (fun _ _ _ _ _ h => h) rfl (by kernel_rfl) trivial rfl rfl (Y.nilCheckP rfl rfl) (#[true, true, true, false, false, false, false, false, false]) (by kernel_rfl) ?_ | refine GA.pure (i := 2) (fun _ _ _ _ _ h => h) rfl (by kernel_rfl) trivial rfl rfl (Y.nilCheckF rfl rfl) (#[true, true, true, false, false, false, false, false, false]) (by kernel_rfl) ?_
    refine GA.read (i := 3) (fun _ _ _ _ _ h => h) rfl (by kernel_rfl) (by kernel_rfl) trivial rfl rfl (Y.loadAt (v := ptr bd) (.next .here) rfl Try.underlying24 rfl rfl rfl) (#[true, true, true, true, false, false, false, false, false]) (by kernel_rfl) ?_
    refine GA.pure (i := 4) (fun _ _ _ _ _ h => h) rfl (by kernel_rfl) trivial rfl rfl (Y.fieldAddr rfl Try.underlying37 rfl I35 rfl rfl) (#[true, true, true, true, true, false, false, false, false]) (by kernel_rfl) ?_
    refine GA.read (i := 5) (fun _ _ _ _ _ h => h) rfl (by kernel_rfl) (by kernel_rfl) trivial rfl rfl (Y.loadAt (v := .slice o.ka o.ks.length o.kc) .here rfl Try.underlying35 rfl rfl rfl) (#[true, true, true, true, true, true, false, false, false]) (by kernel_rfl) ?_
    refine GA.one (i := 6) rfl (by kernel_rfl) (#[true, true, true, true, true, true, true, false, false]) (by kernel_rfl) ?_
    refine G.call E18 rfl rfl trivial rfl rfl (crash_spec W0 [_, _, _, _, _, _] _ bd bl d2 hok2 (by omega) o.ka o.kc o.ks hks (fun _ => hr _)) rfl ?_
    rintro e L2 ⟨bc, bcl, rfl, rfl⟩
    have hlc := crash_live d2 o.ks
    obtain ⟨p4, t4, ht4, hcase⟩ := hall o.ks
    generalize d2.crash o.ks = dc at *
    obtain ⟨b', fs', hWD, hb', hopt⟩ : ∃ (b' : Nat) (fs' : List (List UInt8)), WD b' fs' (T + 2) dc ∧ b' + size fs' ≤ B + size W ∧ ((∃ n, (n = q ∨ n = W.length) ∧ b' = B ∧ fs' = W.take n) ∨ (cut = true ∧ b' = B + size W ∧ fs' = [])) := by
      rcases hcase with ⟨n, hn, h⟩ | ⟨h1, h2⟩
      · have h3 := size_take_le W n
        exact ⟨B, W.take n, ⟨p4, t4, ht4, h, fun b hb => hrW b (List.mem_of_mem_take hb), by omega⟩, by omega, .inl ⟨n, hn, rfl, rfl⟩⟩
      · exact ⟨B + size W, [], ⟨p4, t4, ht4, h2, fun b hb => by simp at hb, by simp [size_nil]⟩, by rw [size_nil]; omega, .inr ⟨h1, rfl, rfl⟩⟩
    refine G.nil ?_
    refine ⟨fun _ _ h => (by first | exact Mem.keepN [_, _] h | exact Mem.keepN [_, _] h.tail), ?_⟩
    first | refine GA.pure (i := 7) (fun _ _ _ _ _ h => h) rfl (by kernel_rfl) trivial rfl rfl (Y.nilCheckP rfl rfl) (#[true, true, true, true, true, true, true, true, false]) (by kernel_rfl) ?_ | refine GA.pure (i := 7) (fun _ _ _ _ _ h => h) rfl (by kernel_rfl) trivial rfl rfl (Y.nilCheckF rfl rfl) (#[true, true, true, true, true, true, true, true, false]) (by kernel_rfl) ?_
    refine GA.one (i := 8) rfl (by kernel_rfl) (#[true, true, true, true, true, true, true, true, true]) (by kernel_rfl) ?_
    refine G.store (v := .pointer _) (by first | exact .here | exact .next .here | exact .next (.next .here) | exact .next (.next (.next .here)) | exact .next (.next (.next (.next .here))) | exact .next (.next (.next (.next (.next .here)))) | exact .next (.next (.next (.next (.next (.next .here))))) | exact .next (.next (.next (.next (.next (.next (.next .here)))))) | exact .in1 | exact .next .in1 | exact .next (.next .in1) | exact .next (.next (.next .in1)) | exact .next (.next (.next (.next .in1))) | exact .in2 | exact .next .in2 | exact .next (.next .in2) | exact .next (.next (.next .in2)) | exact .next (.next (.next (.next .in2))) | exact .app .here | exact .app (.next .here) | exact .app (.next (.next .here)) | exact .app (.next (.next (.next .here))) | exact .app (.next (.next (.next (.next .here)))) | exact .app (.next (.next (.next (.next (.next .here))))) | exact .app (.next (.next (.next (.next (.next (.next .here)))))) | exact .app (.next (.next (.next (.next (.next (.next (.next .here))))))) | exact .app .in1 | exact .app .in2 | exact .app (.next .in1) | exact .next (.app .in1) | exact .next (.next (.app .in1)) | exact .next (.app .here) | exact .next (.next (.app .here)) | exact .next (.next (.next (.app .here))) | exact .next (.next (.next (.next (.app .here))))) rfl trivial rfl I24 rfl rfl rfl (by first | decide | (simp; done) | (simp; omega)) _ (by first | (simp only [List.set_cons_succ, List.set_cons_zero]; done) | (simp only [List.set_cons_succ, List.set_cons_zero]; exact rfl) | exact rfl) ?_
    refine G.nil ?_
    refine ⟨fun _ h => absurd h (by simp [hit]), ?_⟩
    refine GA.done (by kernel_rfl) ?_
    refine C.seq ?_
    refine C.region ?_
    refine G.moveP rfl trivial rfl rfl rfl ?_
    first | refine G.nilCheckP rfl trivial rfl rfl rfl ?_ | refine G.nilCheckF rfl trivial rfl rfl rfl ?_
    refine G.loadAt (v := ptr bc) (.next (.next .here)) rfl trivial rfl rfl Try.underlying24 rfl rfl rfl ?_
    refine G.call E17 rfl rfl trivial rfl rfl (wa_open W0 [] _ bc bcl b' (T + 2) fs' dc hWD hlc (by omega) (by omega)) rfl ?_
    rintro e L2 ⟨bg5, bs5, sg5, sp5, v5, ls5, s50, s51, rfl, hw5, hro5, hls5, rfl⟩
    obtain ⟨p5, q5, rfl, hr5⟩ := hro5.form
    have hl5 := ls_length hls5
    refine G.moveU rfl trivial rfl rfl rfl ?_
    refine G.extractL rfl trivial rfl rfl rfl rfl ?_
    refine G.extractL rfl trivial rfl rfl rfl rfl ?_
    refine G.extractL rfl trivial rfl rfl rfl rfl ?_
    refine G.assignP rfl trivial rfl rfl rfl ?_
    refine G.assignS rfl trivial rfl rfl rfl ?_
    refine G.assignI rfl trivial rfl rfl rfl ?_
    refine G.nil ?_
    refine C.seq ?_
    refine C.seq ?_
    refine C.region ?_
    refine G.moveI rfl trivial rfl rfl rfl ?_
    refine G.bin rfl trivial rfl rfl rfl rfl rfl ?_
    refine G.nil ?_
    refine C.no rfl (by simp) ?_
    refine C.skip ?_
    refine C.seq ?_
    refine C.region ?_
    refine G.moveP rfl trivial rfl rfl rfl ?_
    refine G.moveP rfl trivial rfl rfl rfl ?_
    first | refine G.nilCheckP rfl trivial rfl rfl rfl ?_ | refine G.nilCheckF rfl trivial rfl rfl rfl ?_
    refine G.store (v := .pointer _) (by first | exact .here | exact .next .here | exact .next (.next .here) | exact .next (.next (.next .here)) | exact .next (.next (.next (.next .here))) | exact .next (.next (.next (.next (.next .here)))) | exact .next (.next (.next (.next (.next (.next .here))))) | exact .next (.next (.next (.next (.next (.next (.next .here)))))) | exact .in1 | exact .next .in1 | exact .next (.next .in1) | exact .next (.next (.next .in1)) | exact .next (.next (.next (.next .in1))) | exact .in2 | exact .next .in2 | exact .next (.next .in2) | exact .next (.next (.next .in2)) | exact .next (.next (.next (.next .in2))) | exact .app .here | exact .app (.next .here) | exact .app (.next (.next .here)) | exact .app (.next (.next (.next .here))) | exact .app (.next (.next (.next (.next .here)))) | exact .app (.next (.next (.next (.next (.next .here))))) | exact .app (.next (.next (.next (.next (.next (.next .here)))))) | exact .app (.next (.next (.next (.next (.next (.next (.next .here))))))) | exact .app .in1 | exact .app .in2 | exact .app (.next .in1) | exact .next (.app .in1) | exact .next (.next (.app .in1)) | exact .next (.app .here) | exact .next (.next (.app .here)) | exact .next (.next (.next (.app .here))) | exact .next (.next (.next (.next (.app .here))))) rfl trivial rfl I26 rfl rfl rfl (by first | decide | (simp; done) | (simp; omega)) _ (by first | (simp only [List.set_cons_succ, List.set_cons_zero]; done) | (simp only [List.set_cons_succ, List.set_cons_zero]; exact rfl) | exact rfl) ?_
    refine G.nil ?_
    refine C.cut (fun F D' L' => ∃ n, (n = q ∨ n = W.length) ∧ b' = B ∧ fs' = W.take n ∧ F 0 = ptr b4 ∧ F 1 = ptr b5 ∧ F 2 = ptr bK ∧ F 9 = .slice a0 W.length c0 ∧ F 10 = .int .i64 (B : Int) ∧ F 11 = .int .i64 ((B + size (W.take q) : Nat) : Int) ∧ F 14 = ptr bg5 ∧ F 15 = .slice p5 ls5.length q5 ∧ D' = [] ∧ s50 :: s51 :: sg5 :: sp5 :: devSeg bc bcl dc :: [(bo, .row (wopC o) 37 6)] :: [(b4, .row [ptr bc] 24 1)] :: [(b5, .row [ptr bg5] 26 1)] :: ((bK, .row [.slice a0 W.length c0, .int .i64 (B : Int), .int .i64 (kf : Int)] 33 3) :: ws) :: x1 :: x2 :: devSeg bd bl d2 :: L0 = L') ?_ ?_
    ·
      refine C.seq ?_
      refine C.region ?_
      refine G.moveB rfl trivial rfl rfl rfl ?_
      refine G.moveB rfl trivial rfl rfl rfl ?_
      refine G.forkB (t := 112) _ rfl ?_ ?_
      · intro hg112
        refine G.moveS rfl ⟨_, rfl, rfl, rfl⟩ rfl rfl rfl ?_
        refine G.lenSlice rfl ⟨_, rfl, rfl, rfl⟩ rfl rfl Try.underlying51 rfl ?_
        refine G.bin rfl ⟨_, rfl, rfl, rfl⟩ rfl rfl rfl rfl rfl ?_
        first | refine G.pickT rfl trivial rfl rfl rfl rfl ?_ | refine G.pickF rfl trivial rfl rfl rfl rfl ?_
        refine G.moveB rfl trivial rfl rfl rfl ?_
        refine G.fork (t := 117) _ rfl ?_ ?_
        · intro hg117
          refine G.moveP rfl ⟨_, rfl, rfl, rfl⟩ rfl rfl rfl ?_
          refine G.call E16 rfl rfl ⟨_, rfl, rfl, rfl⟩ rfl rfl (wa_base W0 [_, _] _ bg5 bs5 bc _ _ _ _ dc sg5 sp5 hw5) rfl ?_
          rintro e L2 ⟨rfl, rfl⟩
          refine G.moveP rfl ⟨_, rfl, rfl, rfl⟩ rfl rfl rfl ?_
          refine G.call E9 rfl rfl ⟨_, rfl, rfl, rfl⟩ rfl rfl (kend_spec W0 [_, _, _, _, _, _, _, _] _ bK B kf W _ ⟨_, ws, hv, rfl⟩ (by have := length_le_size W; omega) (by omega)) rfl ?_
          rintro e L2 ⟨rfl, rfl⟩
          refine G.bin rfl ⟨_, rfl, rfl, rfl⟩ rfl rfl rfl rfl rfl ?_
          first | refine G.pickT rfl trivial rfl rfl rfl rfl ?_ | refine G.pickF rfl trivial rfl rfl rfl rfl ?_
          refine G.moveB rfl trivial rfl rfl rfl ?_
          refine G.fork (t := 124) _ rfl ?_ ?_
          · intro hg124
            refine G.moveP rfl ⟨_, rfl, rfl, rfl⟩ rfl rfl rfl ?_
            refine G.call E15 rfl rfl ⟨_, rfl, rfl, rfl⟩ rfl rfl (wa_end W0 [_, _] _ bg5 bs5 bc _ _ _ _ dc sg5 sp5 hw5) rfl ?_
            rintro e L2 ⟨rfl, rfl⟩
            refine G.moveP rfl ⟨_, rfl, rfl, rfl⟩ rfl rfl rfl ?_
            refine G.call E9 rfl rfl ⟨_, rfl, rfl, rfl⟩ rfl rfl (kend_spec W0 [_, _, _, _, _, _, _, _] _ bK B kf W _ ⟨_, ws, hv, rfl⟩ (by have := length_le_size W; omega) (by omega)) rfl ?_
            rintro e L2 ⟨rfl, rfl⟩
            refine G.bin rfl ⟨_, rfl, rfl, rfl⟩ rfl rfl rfl rfl rfl ?_
            first | refine G.pickT rfl trivial rfl rfl rfl rfl ?_ | refine G.pickF rfl trivial rfl rfl rfl rfl ?_
            refine G.nil ?_
            refine C.cond _ rfl ?_ ?_
            · intro hc6
              obtain rfl : fs' = [] := List.eq_nil_of_length_eq_zero (by omega)
              have hbe : b' = B + size W := by omega
              have hsn : size [] = 0 := size_nil
              refine C.seq ?_
              refine C.region ?_
              refine G.moveP rfl trivial rfl rfl rfl ?_
              refine G.moveP rfl trivial rfl rfl rfl ?_
              refine G.moveP rfl trivial rfl rfl rfl ?_
              refine G.call E9 rfl rfl trivial rfl rfl (kend_spec W0 [_, _, _, _, _, _, _, _] _ bK B kf W _ ⟨_, ws, hv, rfl⟩ (by have := length_le_size W; omega) (by omega)) rfl ?_
              rintro e L2 ⟨rfl, rfl⟩
              first | refine G.nilCheckP rfl trivial rfl rfl rfl ?_ | refine G.nilCheckF rfl trivial rfl rfl rfl ?_
              refine G.fieldAddr rfl trivial rfl rfl Try.underlying33 rfl I2 rfl rfl ?_
              refine G.store (v := .int _ _) (by first | exact .here | exact .next .here | exact .next (.next .here) | exact .next (.next (.next .here)) | exact .next (.next (.next (.next .here))) | exact .next (.next (.next (.next (.next .here)))) | exact .next (.next (.next (.next (.next (.next .here))))) | exact .next (.next (.next (.next (.next (.next (.next .here)))))) | exact .in1 | exact .next .in1 | exact .next (.next .in1) | exact .next (.next (.next .in1)) | exact .next (.next (.next (.next .in1))) | exact .in2 | exact .next .in2 | exact .next (.next .in2) | exact .next (.next (.next .in2)) | exact .next (.next (.next (.next .in2))) | exact .app .here | exact .app (.next .here) | exact .app (.next (.next .here)) | exact .app (.next (.next (.next .here))) | exact .app (.next (.next (.next (.next .here)))) | exact .app (.next (.next (.next (.next (.next .here))))) | exact .app (.next (.next (.next (.next (.next (.next .here)))))) | exact .app (.next (.next (.next (.next (.next (.next (.next .here))))))) | exact .app .in1 | exact .app .in2 | exact .app (.next .in1) | exact .next (.app .in1) | exact .next (.next (.app .in1)) | exact .next (.app .here) | exact .next (.next (.app .here)) | exact .next (.next (.next (.app .here))) | exact .next (.next (.next (.next (.app .here))))) rfl trivial rfl I2 rfl rfl rfl (by first | decide | (simp; done) | (simp; omega)) _ (by first | (simp only [List.set_cons_succ, List.set_cons_zero]; done) | (simp only [List.set_cons_succ, List.set_cons_zero]; exact rfl) | exact rfl) ?_
              first | refine G.nilCheckP rfl trivial rfl rfl rfl ?_ | refine G.nilCheckF rfl trivial rfl rfl rfl ?_
              refine G.fieldAddr rfl trivial rfl rfl Try.underlying33 rfl I31 rfl rfl ?_
              refine G.store (v := .slice _ _ _) (by first | exact .here | exact .next .here | exact .next (.next .here) | exact .next (.next (.next .here)) | exact .next (.next (.next (.next .here))) | exact .next (.next (.next (.next (.next .here)))) | exact .next (.next (.next (.next (.next (.next .here))))) | exact .next (.next (.next (.next (.next (.next (.next .here)))))) | exact .in1 | exact .next .in1 | exact .next (.next .in1) | exact .next (.next (.next .in1)) | exact .next (.next (.next (.next .in1))) | exact .in2 | exact .next .in2 | exact .next (.next .in2) | exact .next (.next (.next .in2)) | exact .next (.next (.next (.next .in2))) | exact .app .here | exact .app (.next .here) | exact .app (.next (.next .here)) | exact .app (.next (.next (.next .here))) | exact .app (.next (.next (.next (.next .here)))) | exact .app (.next (.next (.next (.next (.next .here))))) | exact .app (.next (.next (.next (.next (.next (.next .here)))))) | exact .app (.next (.next (.next (.next (.next (.next (.next .here))))))) | exact .app .in1 | exact .app .in2 | exact .app (.next .in1) | exact .next (.app .in1) | exact .next (.next (.app .in1)) | exact .next (.app .here) | exact .next (.next (.app .here)) | exact .next (.next (.next (.app .here))) | exact .next (.next (.next (.next (.app .here))))) rfl trivial rfl I31 rfl rfl rfl (by first | decide | (simp; done) | (simp; omega)) _ (by first | (simp only [List.set_cons_succ, List.set_cons_zero]; done) | (simp only [List.set_cons_succ, List.set_cons_zero]; exact rfl) | exact rfl) ?_
              refine G.nil ?_
              refine C.seq ?_
              refine C.region ?_
              refine G.moveP rfl trivial rfl rfl rfl ?_
              refine G.moveP rfl trivial rfl rfl rfl ?_
              first | refine G.nilCheckP rfl trivial rfl rfl rfl ?_ | refine G.nilCheckF rfl trivial rfl rfl rfl ?_
              refine G.fieldAddr rfl trivial rfl rfl Try.underlying33 rfl I2 rfl rfl ?_
              refine G.loadAt (by first | exact .here | exact .next .here | exact .next (.next .here) | exact .next (.next (.next .here)) | exact .next (.next (.next (.next .here))) | exact .next (.next (.next (.next (.next .here)))) | exact .next (.next (.next (.next (.next (.next .here))))) | exact .next (.next (.next (.next (.next (.next (.next .here)))))) | exact .in1 | exact .next .in1 | exact .next (.next .in1) | exact .next (.next (.next .in1)) | exact .next (.next (.next (.next .in1))) | exact .in2 | exact .next .in2 | exact .next (.next .in2) | exact .next (.next (.next .in2)) | exact .next (.next (.next (.next .in2))) | exact .app .here | exact .app (.next .here) | exact .app (.next (.next .here)) | exact .app (.next (.next (.next .here))) | exact .app (.next (.next (.next (.next .here)))) | exact .app (.next (.next (.next (.next (.next .here))))) | exact .app (.next (.next (.next (.next (.next (.next .here)))))) | exact .app (.next (.next (.next (.next (.next (.next (.next .here))))))) | exact .app .in1 | exact .app .in2 | exact .app (.next .in1) | exact .next (.app .in1) | exact .next (.next (.app .in1)) | exact .next (.app .here) | exact .next (.next (.app .here)) | exact .next (.next (.next (.app .here))) | exact .next (.next (.next (.next (.app .here))))) rfl trivial rfl rfl Try.underlying2 rfl rfl (by rfl) ?_
              first | refine G.nilCheckP rfl trivial rfl rfl rfl ?_ | refine G.nilCheckF rfl trivial rfl rfl rfl ?_
              refine G.fieldAddr rfl trivial rfl rfl Try.underlying33 rfl I2 rfl rfl ?_
              refine G.store (v := .int _ _) (by first | exact .here | exact .next .here | exact .next (.next .here) | exact .next (.next (.next .here)) | exact .next (.next (.next (.next .here))) | exact .next (.next (.next (.next (.next .here)))) | exact .next (.next (.next (.next (.next (.next .here))))) | exact .next (.next (.next (.next (.next (.next (.next .here)))))) | exact .in1 | exact .next .in1 | exact .next (.next .in1) | exact .next (.next (.next .in1)) | exact .next (.next (.next (.next .in1))) | exact .in2 | exact .next .in2 | exact .next (.next .in2) | exact .next (.next (.next .in2)) | exact .next (.next (.next (.next .in2))) | exact .app .here | exact .app (.next .here) | exact .app (.next (.next .here)) | exact .app (.next (.next (.next .here))) | exact .app (.next (.next (.next (.next .here)))) | exact .app (.next (.next (.next (.next (.next .here))))) | exact .app (.next (.next (.next (.next (.next (.next .here)))))) | exact .app (.next (.next (.next (.next (.next (.next (.next .here))))))) | exact .app .in1 | exact .app .in2 | exact .app (.next .in1) | exact .next (.app .in1) | exact .next (.next (.app .in1)) | exact .next (.app .here) | exact .next (.next (.app .here)) | exact .next (.next (.next (.app .here))) | exact .next (.next (.next (.next (.app .here))))) rfl trivial rfl I2 rfl rfl rfl (by first | decide | (simp; done) | (simp; omega)) _ (by first | (simp only [List.set_cons_succ, List.set_cons_zero]; done) | (simp only [List.set_cons_succ, List.set_cons_zero]; exact rfl) | exact rfl) ?_
              refine G.nil ?_
              refine C.seq ?_
              refine C.drawn mixed (_) [] (fun _ h => h) ?_
              refine GA.pure (i := 0) (fun _ _ _ _ _ h => h) rfl (by kernel_rfl) trivial rfl rfl (Y.moveP rfl rfl) (#[true, false, false, false, false, false, false, false]) (by kernel_rfl) ?_
              refine GA.pure (i := 2) (fun _ _ _ _ _ h => h) rfl (by kernel_rfl) trivial rfl rfl (Y.moveP rfl rfl) (#[true, false, true, false, false, false, false, false]) (by kernel_rfl) ?_
              first | refine GA.pure (i := 3) (fun _ _ _ _ _ h => h) rfl (by kernel_rfl) trivial rfl rfl (Y.nilCheckP rfl rfl) (#[true, false, true, true, false, false, false, false]) (by kernel_rfl) ?_ | refine GA.pure (i := 3) (fun _ _ _ _ _ h => h) rfl (by kernel_rfl) trivial rfl rfl (Y.nilCheckF rfl rfl) (#[true, false, true, true, false, false, false, false]) (by kernel_rfl) ?_
              refine GA.pure (i := 4) (fun _ _ _ _ _ h => h) rfl (by kernel_rfl) trivial rfl rfl (Y.fieldAddr rfl Try.underlying33 rfl I2 rfl rfl) (#[true, false, true, true, true, false, false, false]) (by kernel_rfl) ?_
              refine GA.read (i := 5) (fun _ _ _ _ _ h => h) rfl (by kernel_rfl) (by kernel_rfl) trivial rfl rfl (Y.loadAt (v := .int .i64 ((B + size W : Nat) : Int)) (.next (.next (.next (.next (.next (.next (.next (.next .here)))))))) rfl Try.underlying2 rfl rfl rfl) (#[true, false, true, true, true, true, false, false]) (by kernel_rfl) ?_
              refine GA.one (i := 1) rfl (by kernel_rfl) (#[true, true, true, true, true, true, false, false]) (by kernel_rfl) ?_
              refine G.call E13 rfl rfl trivial rfl rfl (wa_forced W0 [_, _] _ bg5 bs5 bc _ _ _ _ dc sg5 sp5 hw5) rfl ?_
              rintro e L2 ⟨rfl, rfl⟩
              refine G.nil ?_
              refine ⟨fun _ _ h => h, ?_⟩
              refine GA.pure (i := 6) (fun _ _ _ _ _ h => h) rfl (by kernel_rfl) trivial rfl rfl (Y.bin rfl rfl rfl rfl) (#[true, true, true, true, true, true, true, false]) (by kernel_rfl) ?_
              refine GA.yes (t := 152) rfl (by omega) ?_
              refine GA.pure (i := 7) (fun _ _ _ _ _ h => h) rfl (by kernel_rfl) trivial rfl rfl (Y.assignB rfl rfl) (#[true, true, true, true, true, true, true, true]) (by kernel_rfl) ?_
              refine GA.done (by kernel_rfl) ?_
              refine C.less (fun _ h => Mem.book1 h.empty) ?_
              refine C.ret ?_
              -- end g112Tg117Tg124Tc6T
              exact ⟨rfl, _, Res.of (rs := [.tmp 8]) rfl rfl, bg5, bs5, bc, bcl, b', [], dc, sg5, sp5, _, rfl, hw5, ⟨_, [], OwnS.nil _ _, by rw [hbe, size_nil]; rfl⟩, by omega, rfl⟩
            · intro hc6
              refine C.skip ?_
              obtain ⟨n, h1, h2, h3⟩ := hopt.resolve_right (fun h => hc6 (by have h4 := h.2.1; have h5 := h.2.2; subst h5; rw [size_nil]; omega))
              exact ⟨n, h1, h2, h3, rfl, rfl, rfl, rfl, rfl, rfl, rfl, rfl, rfl, rfl⟩
          · intro hg124
            refine G.skip rfl rfl rfl rfl rfl rfl ?_
            refine G.skip rfl rfl rfl rfl rfl rfl ?_
            refine G.skip rfl rfl rfl rfl rfl rfl ?_
            refine G.skip rfl rfl rfl rfl rfl rfl ?_
            refine G.skip rfl rfl rfl rfl rfl rfl ?_
            first | refine G.pickT rfl trivial rfl rfl rfl rfl ?_ | refine G.pickF rfl trivial rfl rfl rfl rfl ?_
            refine G.nil ?_
            refine C.condF rfl ?_
            refine C.skip ?_
            obtain ⟨n, h1, h2, h3⟩ := hopt.resolve_right (fun h => hg124 (by have h4 := h.2.1; omega))
            exact ⟨n, h1, h2, h3, rfl, rfl, rfl, rfl, rfl, rfl, rfl, rfl, rfl, rfl⟩
        · intro hg117
          refine G.skip rfl rfl rfl rfl rfl rfl ?_
          refine G.skip rfl rfl rfl rfl rfl rfl ?_
          refine G.skip rfl rfl rfl rfl rfl rfl ?_
          refine G.skip rfl rfl rfl rfl rfl rfl ?_
          refine G.skip rfl rfl rfl rfl rfl rfl ?_
          first | refine G.pickT rfl trivial rfl rfl rfl rfl ?_ | refine G.pickF rfl trivial rfl rfl rfl rfl ?_
          refine G.moveB rfl trivial rfl rfl rfl ?_
          refine G.skip rfl rfl rfl rfl rfl rfl ?_
          refine G.skip rfl rfl rfl rfl rfl rfl ?_
          refine G.skip rfl rfl rfl rfl rfl rfl ?_
          refine G.skip rfl rfl rfl rfl rfl rfl ?_
          refine G.skip rfl rfl rfl rfl rfl rfl ?_
          first | refine G.pickT rfl trivial rfl rfl rfl rfl ?_ | refine G.pickF rfl trivial rfl rfl rfl rfl ?_
          refine G.nil ?_
          refine C.condF rfl ?_
          refine C.skip ?_
          obtain ⟨n, h1, h2, h3⟩ := hopt.resolve_right (fun h => hg117 (by have h4 := h.2.2; rw [hl5, h4]; rfl))
          exact ⟨n, h1, h2, h3, rfl, rfl, rfl, rfl, rfl, rfl, rfl, rfl, rfl, rfl⟩
      · intro hg112
        refine G.skip rfl rfl rfl rfl rfl rfl ?_
        refine G.skip rfl rfl rfl rfl rfl rfl ?_
        refine G.skip rfl rfl rfl rfl rfl rfl ?_
        first | refine G.pickT rfl trivial rfl rfl rfl rfl ?_ | refine G.pickF rfl trivial rfl rfl rfl rfl ?_
        refine G.moveB rfl trivial rfl rfl rfl ?_
        refine G.skip rfl rfl rfl rfl rfl rfl ?_
        refine G.skip rfl rfl rfl rfl rfl rfl ?_
        refine G.skip rfl rfl rfl rfl rfl rfl ?_
        refine G.skip rfl rfl rfl rfl rfl rfl ?_
        refine G.skip rfl rfl rfl rfl rfl rfl ?_
        first | refine G.pickT rfl trivial rfl rfl rfl rfl ?_ | refine G.pickF rfl trivial rfl rfl rfl rfl ?_
        refine G.moveB rfl trivial rfl rfl rfl ?_
        refine G.skip rfl rfl rfl rfl rfl rfl ?_
        refine G.skip rfl rfl rfl rfl rfl rfl ?_
        refine G.skip rfl rfl rfl rfl rfl rfl ?_
        refine G.skip rfl rfl rfl rfl rfl rfl ?_
        refine G.skip rfl rfl rfl rfl rfl rfl ?_
        first | refine G.pickT rfl trivial rfl rfl rfl rfl ?_ | refine G.pickF rfl trivial rfl rfl rfl rfl ?_
        refine G.nil ?_
        refine C.condF rfl ?_
        refine C.skip ?_
        obtain ⟨n, h1, h2, h3⟩ := hopt.resolve_right (fun h => by have h4 := h.1; rw [hg112] at h4; cases h4)
        exact ⟨n, h1, h2, h3, rfl, rfl, rfl, rfl, rfl, rfl, rfl, rfl, rfl, rfl⟩
    ·
      rintro F D' L' ⟨n, hn, rfl, rfl, h0', h1', h2', h9, h10, h11, h14, h15, rfl, rfl⟩
      refine C.fix (d := 0) h0' ?_
      refine C.fix (d := 1) h1' ?_
      refine C.fix (d := 2) h2' ?_
      refine C.fix (d := 9) h9 ?_
      refine C.fix (d := 10) h10 ?_
      refine C.fix (d := 11) h11 ?_
      refine C.fix (d := 14) h14 ?_
      refine C.fix (d := 15) h15 ?_
      clear hopt hcase hall
      refine C.seq ?_
      refine C.region ?_
      refine G.assignI rfl trivial rfl rfl rfl ?_
      refine G.assignI rfl trivial rfl rfl rfl ?_
      refine G.nil ?_
      refine C.seq ?_
      refine C.seq ?_
      refine C.region ?_
      refine G.assignI rfl trivial rfl rfl rfl ?_
      refine G.nil ?_
      refine C.block ?_
      refine C.loop (fun m F D' L' => ∃ i : Nat, i ≤ W.length ∧ m = W.length - i ∧ F 19 = .int .i64 (i : Int) ∧ F 17 = .int .i64 (i : Int) ∧ F 18 = .int .i64 ((min i q : Nat) : Int) ∧ F 0 = ptr b4 ∧ F 1 = ptr b5 ∧ F 2 = ptr bK ∧ F 9 = .slice a0 W.length c0 ∧ F 10 = .int .i64 (b' : Int) ∧ F 11 = .int .i64 ((b' + size (W.take q) : Nat) : Int) ∧ F 14 = ptr bg5 ∧ F 15 = .slice p5 ls5.length q5 ∧ D' = [] ∧ s50 :: s51 :: sg5 :: sp5 :: devSeg bc bcl dc :: [(bo, .row (wopC o) 37 6)] :: [(b4, .row [ptr bc] 24 1)] :: [(b5, .row [ptr bg5] 26 1)] :: ((bK, .row [.slice a0 W.length c0, .int .i64 (b' : Int), .int .i64 (kf : Int)] 33 3) :: ws) :: x1 :: x2 :: devSeg bd bl d2 :: L0 = L') ⟨_, ⟨0, by omega, rfl, rfl, rfl, by rw [Nat.zero_min]; rfl, rfl, rfl, rfl, rfl, rfl, rfl, rfl, rfl, rfl, rfl⟩⟩ ?_
      rintro m F D' L' ⟨i, hi, rfl, h19, h17, h18, h0', h1', h2', h9, h10, h11, h14, h15, rfl, rfl⟩
      refine C.fix (d := 19) h19 ?_
      refine C.fix (d := 17) h17 ?_
      refine C.fix (d := 18) h18 ?_
      refine C.fix (d := 0) h0' ?_
      refine C.fix (d := 1) h1' ?_
      refine C.fix (d := 2) h2' ?_
      refine C.fix (d := 9) h9 ?_
      refine C.fix (d := 10) h10 ?_
      refine C.fix (d := 11) h11 ?_
      refine C.fix (d := 14) h14 ?_
      refine C.fix (d := 15) h15 ?_
      obtain ⟨aW, cW, heW, hrW0⟩ := hv.form
      cases heW
      have hWl := length_le_size W
      have hrdW : ∀ a1 : Option Addr, a1 = a0 → Rd W0 (s50 :: s51 :: sg5 :: sp5 :: devSeg bc bcl dc :: [(bo, .row (wopC o) 37 6)] :: [(b4, .row [ptr bc] 24 1)] :: [(b5, .row [ptr bg5] 26 1)] :: ((bK, .row [.slice a0 W.length c0, .int .i64 (b' : Int), .int .i64 (kf : Int)] 33 3) :: ws) :: x1 :: x2 :: devSeg bd bl d2 :: L0) a1 (recsV b' W) := fun a1 h1 => by
        subst h1
        exact (hrW0 W0 []).mono fun _ h => Mem.only (Mem.split1 (Mem.dropN [_, _, _, _, _, _, _, _] h))
      refine C.seq ?_
      refine C.seq ?_
      refine C.region ?_
      refine G.moveI rfl trivial rfl rfl rfl ?_
      refine G.moveS rfl trivial rfl rfl rfl ?_
      refine G.lenSlice rfl trivial rfl rfl Try.underlying31 rfl ?_
      refine G.bin rfl trivial rfl rfl rfl rfl rfl ?_
      refine G.nil ?_
      refine C.cond _ rfl ?_ ?_
      · intro hc7
        have hlt : i < W.length := by omega
        obtain ⟨p0, q0, hp0, _⟩ := (hrdW a0 rfl).some_ (by rw [recsV_length]; omega)
        have hcell := cell_off (hrdW _ hp0.symm) (recsV_end W b' i hlt) (off := q0 + i * 2 + 1) (by omega)
        refine C.fix (d := 9) (v := .slice (some ⟨p0, q0, none⟩) W.length c0) (by rw [← hp0]; rfl) ?_
        refine C.skip ?_
        refine C.seq ?_
        refine C.block ?_
        refine C.seq ?_
        refine C.seq ?_
        refine C.region ?_
        refine G.moveS rfl trivial rfl rfl rfl ?_
        refine G.moveI rfl trivial rfl rfl rfl ?_
        refine G.indexAddr rfl trivial rfl rfl Try.underlying31 I47 rfl rfl (by omega) ?_
        refine G.fieldAddr rfl trivial rfl rfl Try.underlying47 rfl I2 rfl rfl ?_
        refine G.fix (d := 162) (v := .pointer (some ⟨p0, q0 + i * 2 + 1, none⟩)) (by show Value.pointer (some ⟨p0, q0 + (i : Int).toNat * 2 + 1, none⟩) = _; rw [show (i : Int).toNat = i by omega]) ?_
        refine G.load rfl trivial rfl rfl Try.underlying2 rfl rfl hcell ?_
        refine G.moveI rfl trivial rfl rfl rfl ?_
        refine G.bin rfl trivial rfl rfl rfl rfl rfl ?_
        refine G.nil ?_
        refine C.cond _ rfl ?_ ?_
        · intro hc8
          have hiq : i + 1 ≤ q := by
            rcases Nat.lt_or_ge i q with h | h
            · exact h
            · have := size_take_lt W (show q < i + 1 by omega) (by omega)
              omega
          refine C.region ?_
          refine G.moveI rfl trivial rfl rfl rfl ?_
          refine G.add rfl trivial rfl rfl rfl rfl (by omega) ?_
          refine G.assignI rfl trivial rfl rfl rfl ?_
          refine G.nil ?_
          refine C.region ?_
          refine G.moveI rfl trivial rfl rfl rfl ?_
          refine G.add rfl trivial rfl rfl rfl rfl (by omega) ?_
          refine G.assignI rfl trivial rfl rfl rfl ?_
          refine G.nil ?_
          refine C.region ?_
          refine G.moveI rfl trivial rfl rfl rfl ?_
          refine G.add rfl trivial rfl rfl rfl rfl (by omega) ?_
          refine G.assignI rfl trivial rfl rfl rfl ?_
          refine G.nil ?_
          exact ⟨W.length - (i + 1), by omega, i + 1, by omega, rfl, rfl, rfl, by show Value.int .i64 _ = _; congr 1; omega, rfl, rfl, rfl, by rw [hp0]; rfl, rfl, rfl, rfl, rfl, rfl, rfl⟩
        · intro hc8
          have hiq : q ≤ i := by
            rcases Nat.lt_or_ge i q with h | h
            · have := size_take_mono W (show i + 1 ≤ q from h)
              omega
            · exact h
          refine C.skip ?_
          refine C.region ?_
          refine G.moveI rfl trivial rfl rfl rfl ?_
          refine G.add rfl trivial rfl rfl rfl rfl (by omega) ?_
          refine G.assignI rfl trivial rfl rfl rfl ?_
          refine G.nil ?_
          refine C.region ?_
          refine G.moveI rfl trivial rfl rfl rfl ?_
          refine G.add rfl trivial rfl rfl rfl rfl (by omega) ?_
          refine G.assignI rfl trivial rfl rfl rfl ?_
          refine G.nil ?_
          exact ⟨W.length - (i + 1), by omega, i + 1, by omega, rfl, rfl, rfl, by show Value.int .i64 _ = _; congr 1; omega, rfl, rfl, rfl, by rw [hp0]; rfl, rfl, rfl, rfl, rfl, rfl, rfl⟩
      · intro hc7
        obtain rfl : i = W.length := by omega
        have hnl : (W.take n).length = min n W.length := List.length_take
        refine C.exit ?_
        refine C.seq ?_
        refine C.seq ?_
        refine C.region ?_
        refine G.moveP rfl trivial rfl rfl rfl ?_
        refine G.call E16 rfl rfl trivial rfl rfl (wa_base W0 [_, _] _ bg5 bs5 bc _ _ _ _ dc sg5 sp5 hw5) rfl ?_
        rintro e L2 ⟨rfl, rfl⟩
        refine G.moveI rfl trivial rfl rfl rfl ?_
        refine G.bin rfl trivial rfl rfl rfl rfl rfl ?_
        refine G.moveB rfl trivial rfl rfl rfl ?_
        refine G.no (t := 174) rfl (by simp) ?_
        refine G.moveS rfl ⟨_, rfl, rfl, rfl⟩ rfl rfl rfl ?_
        refine G.lenSlice rfl ⟨_, rfl, rfl, rfl⟩ rfl rfl Try.underlying51 rfl ?_
        refine G.moveI rfl ⟨_, rfl, rfl, rfl⟩ rfl rfl rfl ?_
        refine G.bin rfl ⟨_, rfl, rfl, rfl⟩ rfl rfl rfl rfl rfl ?_
        refine G.moveB rfl ⟨_, rfl, rfl, rfl⟩ rfl rfl rfl ?_
        refine G.fork (t := 179) _ rfl ?_ ?_
        · intro hg179
          refine G.moveS rfl ⟨_, rfl, rfl, rfl⟩ rfl rfl rfl ?_
          refine G.lenSlice rfl ⟨_, rfl, rfl, rfl⟩ rfl rfl Try.underlying51 rfl ?_
          refine G.moveI rfl ⟨_, rfl, rfl, rfl⟩ rfl rfl rfl ?_
          refine G.bin rfl ⟨_, rfl, rfl, rfl⟩ rfl rfl rfl rfl rfl ?_
          first | refine G.pickT rfl ⟨_, rfl, rfl, rfl⟩ rfl rfl rfl rfl ?_ | refine G.pickF rfl ⟨_, rfl, rfl, rfl⟩ rfl rfl rfl rfl ?_
          first | refine G.pickT rfl trivial rfl rfl rfl rfl ?_ | refine G.pickF rfl trivial rfl rfl rfl rfl ?_
          refine G.moveB rfl trivial rfl rfl rfl ?_
          refine G.no (t := 186) rfl (by omega) ?_
          refine G.moveP rfl ⟨_, rfl, rfl, rfl⟩ rfl rfl rfl ?_
          refine G.moveS rfl ⟨_, rfl, rfl, rfl⟩ rfl rfl rfl ?_
          refine G.moveS rfl ⟨_, rfl, rfl, rfl⟩ rfl rfl rfl ?_
          refine G.call E24 rfl rfl ⟨_, rfl, rfl, rfl⟩ rfl rfl (lasts_spec W0 b' W _ (ptr bK) ls5 p5 a0 q5 c0 n hls5 (by omega) (hr5 _ _) (fun x hx => Rd.under (hro5.2 x hx) [_]) (hrdW a0 rfl)) rfl ?_
          rintro e L2 ⟨rfl, rfl⟩
          first | refine G.notD rfl ⟨_, rfl, rfl, rfl⟩ rfl rfl rfl ?_ | refine G.not rfl ⟨_, rfl, rfl, rfl⟩ rfl rfl rfl ?_
          first | refine G.pickT rfl trivial rfl rfl rfl rfl ?_ | refine G.pickF rfl trivial rfl rfl rfl rfl ?_
          refine G.fix (d := 192) (v := .bool false) rfl ?_
          refine G.nil ?_
          refine C.condF rfl ?_
          refine C.skip ?_
          refine C.seq ?_
          refine C.region ?_
          refine G.moveP rfl trivial rfl rfl rfl ?_
          refine G.moveS rfl trivial rfl rfl rfl ?_
          refine G.moveS rfl trivial rfl rfl rfl ?_
          refine G.lenSlice rfl trivial rfl rfl Try.underlying51 rfl ?_
          refine G.sliceH rfl trivial rfl rfl Try.underlying31 I47 rfl rfl (by have := hv.cap; omega) ?_
          refine G.appendNil rfl trivial rfl rfl Try.underlying31 Try.underlying31 I47 rfl (by decide) rfl (by decide) (vs := recsV b' (W.take n)) (by rw [← recsV_take]; exact (hrdW a0 rfl).take) (by rw [recsV_length, hl5]; rfl) (recsV_ok _ _) (by show ls5.length * _ ≤ _; omega) ?_
          intro v8 s8 hv8
          obtain ⟨a8, c8, rfl, _⟩ := hv8.form
          have hv9 : OwnS (.slice a8 (W.take n).length c8) (W.take n).length (recsV b' (W.take n)) 47 2 s8 := by rw [← hl5]; exact hv8
          have hsz8 := size_take_le W n
          first | refine G.nilCheckP rfl trivial rfl rfl rfl ?_ | refine G.nilCheckF rfl trivial rfl rfl rfl ?_
          refine G.fieldAddr rfl trivial rfl rfl Try.underlying33 rfl I31 rfl rfl ?_
          refine G.store (v := .slice a8 ls5.length c8) (.next (.next (.next (.next (.next (.next (.next (.next (.next .here))))))))) rfl trivial rfl I31 rfl rfl rfl (by simp) _ rfl ?_
          refine G.less (fun _ h => Mem.book1 h) ?_
          rw [show ls5.length = (W.take n).length from hl5]
          refine G.nil ?_
          refine C.seq ?_
          refine C.region ?_
          refine G.moveP rfl trivial rfl rfl rfl ?_
          refine G.moveI rfl trivial rfl rfl rfl ?_
          first | refine G.nilCheckP rfl trivial rfl rfl rfl ?_ | refine G.nilCheckF rfl trivial rfl rfl rfl ?_
          refine G.fieldAddr rfl trivial rfl rfl Try.underlying33 rfl I2 rfl rfl ?_
          refine G.store (v := .int _ _) (by first | exact .here | exact .next .here | exact .next (.next .here) | exact .next (.next (.next .here)) | exact .next (.next (.next (.next .here))) | exact .next (.next (.next (.next (.next .here)))) | exact .next (.next (.next (.next (.next (.next .here))))) | exact .next (.next (.next (.next (.next (.next (.next .here)))))) | exact .in1 | exact .next .in1 | exact .next (.next .in1) | exact .next (.next (.next .in1)) | exact .next (.next (.next (.next .in1))) | exact .in2 | exact .next .in2 | exact .next (.next .in2) | exact .next (.next (.next .in2)) | exact .next (.next (.next (.next .in2))) | exact .app .here | exact .app (.next .here) | exact .app (.next (.next .here)) | exact .app (.next (.next (.next .here))) | exact .app (.next (.next (.next (.next .here)))) | exact .app (.next (.next (.next (.next (.next .here))))) | exact .app (.next (.next (.next (.next (.next (.next .here)))))) | exact .app (.next (.next (.next (.next (.next (.next (.next .here))))))) | exact .app .in1 | exact .app .in2 | exact .app (.next .in1) | exact .next (.app .in1) | exact .next (.next (.app .in1)) | exact .next (.app .here) | exact .next (.next (.app .here)) | exact .next (.next (.next (.app .here))) | exact .next (.next (.next (.next (.app .here))))) rfl trivial rfl I2 rfl rfl rfl (by first | decide | (simp; done) | (simp; omega)) _ (by first | (simp only [List.set_cons_succ, List.set_cons_zero]; done) | (simp only [List.set_cons_succ, List.set_cons_zero]; exact rfl) | exact rfl) ?_
          refine G.nil ?_
          refine C.seq ?_
          refine C.region ?_
          refine G.moveP rfl trivial rfl rfl rfl ?_
          refine G.moveP rfl trivial rfl rfl rfl ?_
          refine G.call E9 rfl rfl trivial rfl rfl (kend_spec W0 [_, _] _ bK b' kf (W.take n) _ ⟨_, s8, hv9, rfl⟩ (by omega) (by omega)) rfl ?_
          rintro e L2 ⟨rfl, rfl⟩
          first | refine G.nilCheckP rfl trivial rfl rfl rfl ?_ | refine G.nilCheckF rfl trivial rfl rfl rfl ?_
          refine G.fieldAddr rfl trivial rfl rfl Try.underlying33 rfl I2 rfl rfl ?_
          refine G.store (v := .int _ _) (by first | exact .here | exact .next .here | exact .next (.next .here) | exact .next (.next (.next .here)) | exact .next (.next (.next (.next .here))) | exact .next (.next (.next (.next (.next .here)))) | exact .next (.next (.next (.next (.next (.next .here))))) | exact .next (.next (.next (.next (.next (.next (.next .here)))))) | exact .in1 | exact .next .in1 | exact .next (.next .in1) | exact .next (.next (.next .in1)) | exact .next (.next (.next (.next .in1))) | exact .in2 | exact .next .in2 | exact .next (.next .in2) | exact .next (.next (.next .in2)) | exact .next (.next (.next (.next .in2))) | exact .app .here | exact .app (.next .here) | exact .app (.next (.next .here)) | exact .app (.next (.next (.next .here))) | exact .app (.next (.next (.next (.next .here)))) | exact .app (.next (.next (.next (.next (.next .here))))) | exact .app (.next (.next (.next (.next (.next (.next .here)))))) | exact .app (.next (.next (.next (.next (.next (.next (.next .here))))))) | exact .app .in1 | exact .app .in2 | exact .app (.next .in1) | exact .next (.app .in1) | exact .next (.next (.app .in1)) | exact .next (.app .here) | exact .next (.next (.app .here)) | exact .next (.next (.next (.app .here))) | exact .next (.next (.next (.next (.app .here))))) rfl trivial rfl I2 rfl rfl rfl (by first | decide | (simp; done) | (simp; omega)) _ (by first | (simp only [List.set_cons_succ, List.set_cons_zero]; done) | (simp only [List.set_cons_succ, List.set_cons_zero]; exact rfl) | exact rfl) ?_
          refine G.nil ?_
          refine C.seq ?_
          refine C.region ?_
          refine G.moveP rfl trivial rfl rfl rfl ?_
          refine G.call E15 rfl rfl trivial rfl rfl (wa_end W0 [_, _, _] _ bg5 bs5 bc _ _ _ _ dc sg5 sp5 hw5) rfl ?_
          rintro e L2 ⟨rfl, rfl⟩
          refine G.moveP rfl trivial rfl rfl rfl ?_
          refine G.call E9 rfl rfl trivial rfl rfl (kend_spec W0 [_, _] _ bK b' (b' + size (W.take n)) (W.take n) _ ⟨_, s8, hv9, rfl⟩ (by omega) (by omega)) rfl ?_
          rintro e L2 ⟨rfl, rfl⟩
          refine G.bin rfl trivial rfl rfl rfl rfl rfl ?_
          refine G.moveB rfl trivial rfl rfl rfl ?_
          refine G.yes (t := 215) rfl (by rw [size_nil]; omega) ?_
          refine G.moveP rfl ⟨_, rfl, rfl, rfl⟩ rfl rfl rfl ?_
          refine G.call E13 rfl rfl ⟨_, rfl, rfl, rfl⟩ rfl rfl (wa_forced W0 [_, _, _] _ bg5 bs5 bc _ _ _ _ dc sg5 sp5 hw5) rfl ?_
          rintro e L2 ⟨rfl, rfl⟩
          refine G.moveP rfl ⟨_, rfl, rfl, rfl⟩ rfl rfl rfl ?_
          refine G.call E9 rfl rfl ⟨_, rfl, rfl, rfl⟩ rfl rfl (kend_spec W0 [_, _] _ bK b' (b' + size (W.take n)) (W.take n) _ ⟨_, s8, hv9, rfl⟩ (by omega) (by omega)) rfl ?_
          rintro e L2 ⟨rfl, rfl⟩
          refine G.bin rfl ⟨_, rfl, rfl, rfl⟩ rfl rfl rfl rfl rfl ?_
          first | refine G.pickT rfl trivial rfl rfl rfl rfl ?_ | refine G.pickF rfl trivial rfl rfl rfl rfl ?_
          refine G.yes (t := 221) rfl (by omega) ?_
          refine G.assignB rfl trivial rfl rfl rfl ?_
          refine G.nil ?_
          refine C.ret ?_
          -- end c7Fg179T
          exact ⟨rfl, _, Res.of (rs := [.tmp 8]) rfl rfl, bg5, bs5, bc, bcl, b', W.take n, dc, sg5, sp5, _, rfl, hw5, ⟨_, s8, hv9, rfl⟩, by omega, rfl⟩
        · intro hg179
          refine G.skip rfl rfl rfl rfl rfl rfl ?_
          refine G.skip rfl rfl rfl rfl rfl rfl ?_
          refine G.skip rfl rfl rfl rfl rfl rfl ?_
          refine G.skip rfl rfl rfl rfl rfl rfl ?_
          first | refine G.pickT rfl ⟨_, rfl, rfl, rfl⟩ rfl rfl rfl rfl ?_ | refine G.pickF rfl ⟨_, rfl, rfl, rfl⟩ rfl rfl rfl rfl ?_
          first | refine G.pickT rfl trivial rfl rfl rfl rfl ?_ | refine G.pickF rfl trivial rfl rfl rfl rfl ?_
          refine G.moveB rfl trivial rfl rfl rfl ?_
          refine G.moveP rfl ⟨_, rfl, rfl, rfl⟩ rfl rfl rfl ?_
          refine G.moveS rfl ⟨_, rfl, rfl, rfl⟩ rfl rfl rfl ?_
          refine G.moveS rfl ⟨_, rfl, rfl, rfl⟩ rfl rfl rfl ?_
          refine G.call E24 rfl rfl ⟨_, rfl, rfl, rfl⟩ rfl rfl (lasts_spec W0 b' W _ (ptr bK) ls5 p5 a0 q5 c0 n hls5 (by omega) (hr5 _ _) (fun x hx => Rd.under (hro5.2 x hx) [_]) (hrdW a0 rfl)) rfl ?_
          rintro e L2 ⟨rfl, rfl⟩
          first | refine G.notD rfl ⟨_, rfl, rfl, rfl⟩ rfl rfl rfl ?_ | refine G.not rfl ⟨_, rfl, rfl, rfl⟩ rfl rfl rfl ?_
          first | refine G.pickT rfl trivial rfl rfl rfl rfl ?_ | refine G.pickF rfl trivial rfl rfl rfl rfl ?_
          refine G.fix (d := 192) (v := .bool false) rfl ?_
          refine G.nil ?_
          refine C.condF rfl ?_
          refine C.skip ?_
          refine C.seq ?_
          refine C.region ?_
          refine G.moveP rfl trivial rfl rfl rfl ?_
          refine G.moveS rfl trivial rfl rfl rfl ?_
          refine G.moveS rfl trivial rfl rfl rfl ?_
          refine G.lenSlice rfl trivial rfl rfl Try.underlying51 rfl ?_
          refine G.sliceH rfl trivial rfl rfl Try.underlying31 I47 rfl rfl (by have := hv.cap; omega) ?_
          refine G.appendNil rfl trivial rfl rfl Try.underlying31 Try.underlying31 I47 rfl (by decide) rfl (by decide) (vs := recsV b' (W.take n)) (by rw [← recsV_take]; exact (hrdW a0 rfl).take) (by rw [recsV_length, hl5]; rfl) (recsV_ok _ _) (by show ls5.length * _ ≤ _; omega) ?_
          intro v8 s8 hv8
          obtain ⟨a8, c8, rfl, _⟩ := hv8.form
          have hv9 : OwnS (.slice a8 (W.take n).length c8) (W.take n).length (recsV b' (W.take n)) 47 2 s8 := by rw [← hl5]; exact hv8
          have hsz8 := size_take_le W n
          first | refine G.nilCheckP rfl trivial rfl rfl rfl ?_ | refine G.nilCheckF rfl trivial rfl rfl rfl ?_
          refine G.fieldAddr rfl trivial rfl rfl Try.underlying33 rfl I31 rfl rfl ?_
          refine G.store (v := .slice a8 ls5.length c8) (.next (.next (.next (.next (.next (.next (.next (.next (.next .here))))))))) rfl trivial rfl I31 rfl rfl rfl (by simp) _ rfl ?_
          refine G.less (fun _ h => Mem.book1 h) ?_
          rw [show ls5.length = (W.take n).length from hl5]
          refine G.nil ?_
          refine C.seq ?_
          refine C.region ?_
          refine G.moveP rfl trivial rfl rfl rfl ?_
          refine G.moveI rfl trivial rfl rfl rfl ?_
          first | refine G.nilCheckP rfl trivial rfl rfl rfl ?_ | refine G.nilCheckF rfl trivial rfl rfl rfl ?_
          refine G.fieldAddr rfl trivial rfl rfl Try.underlying33 rfl I2 rfl rfl ?_
          refine G.store (v := .int _ _) (by first | exact .here | exact .next .here | exact .next (.next .here) | exact .next (.next (.next .here)) | exact .next (.next (.next (.next .here))) | exact .next (.next (.next (.next (.next .here)))) | exact .next (.next (.next (.next (.next (.next .here))))) | exact .next (.next (.next (.next (.next (.next (.next .here)))))) | exact .in1 | exact .next .in1 | exact .next (.next .in1) | exact .next (.next (.next .in1)) | exact .next (.next (.next (.next .in1))) | exact .in2 | exact .next .in2 | exact .next (.next .in2) | exact .next (.next (.next .in2)) | exact .next (.next (.next (.next .in2))) | exact .app .here | exact .app (.next .here) | exact .app (.next (.next .here)) | exact .app (.next (.next (.next .here))) | exact .app (.next (.next (.next (.next .here)))) | exact .app (.next (.next (.next (.next (.next .here))))) | exact .app (.next (.next (.next (.next (.next (.next .here)))))) | exact .app (.next (.next (.next (.next (.next (.next (.next .here))))))) | exact .app .in1 | exact .app .in2 | exact .app (.next .in1) | exact .next (.app .in1) | exact .next (.next (.app .in1)) | exact .next (.app .here) | exact .next (.next (.app .here)) | exact .next (.next (.next (.app .here))) | exact .next (.next (.next (.next (.app .here))))) rfl trivial rfl I2 rfl rfl rfl (by first | decide | (simp; done) | (simp; omega)) _ (by first | (simp only [List.set_cons_succ, List.set_cons_zero]; done) | (simp only [List.set_cons_succ, List.set_cons_zero]; exact rfl) | exact rfl) ?_
          refine G.nil ?_
          refine C.seq ?_
          refine C.region ?_
          refine G.moveP rfl trivial rfl rfl rfl ?_
          refine G.moveP rfl trivial rfl rfl rfl ?_
          refine G.call E9 rfl rfl trivial rfl rfl (kend_spec W0 [_, _] _ bK b' kf (W.take n) _ ⟨_, s8, hv9, rfl⟩ (by omega) (by omega)) rfl ?_
          rintro e L2 ⟨rfl, rfl⟩
          first | refine G.nilCheckP rfl trivial rfl rfl rfl ?_ | refine G.nilCheckF rfl trivial rfl rfl rfl ?_
          refine G.fieldAddr rfl trivial rfl rfl Try.underlying33 rfl I2 rfl rfl ?_
          refine G.store (v := .int _ _) (by first | exact .here | exact .next .here | exact .next (.next .here) | exact .next (.next (.next .here)) | exact .next (.next (.next (.next .here))) | exact .next (.next (.next (.next (.next .here)))) | exact .next (.next (.next (.next (.next (.next .here))))) | exact .next (.next (.next (.next (.next (.next (.next .here)))))) | exact .in1 | exact .next .in1 | exact .next (.next .in1) | exact .next (.next (.next .in1)) | exact .next (.next (.next (.next .in1))) | exact .in2 | exact .next .in2 | exact .next (.next .in2) | exact .next (.next (.next .in2)) | exact .next (.next (.next (.next .in2))) | exact .app .here | exact .app (.next .here) | exact .app (.next (.next .here)) | exact .app (.next (.next (.next .here))) | exact .app (.next (.next (.next (.next .here)))) | exact .app (.next (.next (.next (.next (.next .here))))) | exact .app (.next (.next (.next (.next (.next (.next .here)))))) | exact .app (.next (.next (.next (.next (.next (.next (.next .here))))))) | exact .app .in1 | exact .app .in2 | exact .app (.next .in1) | exact .next (.app .in1) | exact .next (.next (.app .in1)) | exact .next (.app .here) | exact .next (.next (.app .here)) | exact .next (.next (.next (.app .here))) | exact .next (.next (.next (.next (.app .here))))) rfl trivial rfl I2 rfl rfl rfl (by first | decide | (simp; done) | (simp; omega)) _ (by first | (simp only [List.set_cons_succ, List.set_cons_zero]; done) | (simp only [List.set_cons_succ, List.set_cons_zero]; exact rfl) | exact rfl) ?_
          refine G.nil ?_
          refine C.seq ?_
          refine C.region ?_
          refine G.moveP rfl trivial rfl rfl rfl ?_
          refine G.call E15 rfl rfl trivial rfl rfl (wa_end W0 [_, _, _] _ bg5 bs5 bc _ _ _ _ dc sg5 sp5 hw5) rfl ?_
          rintro e L2 ⟨rfl, rfl⟩
          refine G.moveP rfl trivial rfl rfl rfl ?_
          refine G.call E9 rfl rfl trivial rfl rfl (kend_spec W0 [_, _] _ bK b' (b' + size (W.take n)) (W.take n) _ ⟨_, s8, hv9, rfl⟩ (by omega) (by omega)) rfl ?_
          rintro e L2 ⟨rfl, rfl⟩
          refine G.bin rfl trivial rfl rfl rfl rfl rfl ?_
          refine G.moveB rfl trivial rfl rfl rfl ?_
          refine G.yes (t := 215) rfl (by rw [size_nil]; omega) ?_
          refine G.moveP rfl ⟨_, rfl, rfl, rfl⟩ rfl rfl rfl ?_
          refine G.call E13 rfl rfl ⟨_, rfl, rfl, rfl⟩ rfl rfl (wa_forced W0 [_, _, _] _ bg5 bs5 bc _ _ _ _ dc sg5 sp5 hw5) rfl ?_
          rintro e L2 ⟨rfl, rfl⟩
          refine G.moveP rfl ⟨_, rfl, rfl, rfl⟩ rfl rfl rfl ?_
          refine G.call E9 rfl rfl ⟨_, rfl, rfl, rfl⟩ rfl rfl (kend_spec W0 [_, _] _ bK b' (b' + size (W.take n)) (W.take n) _ ⟨_, s8, hv9, rfl⟩ (by omega) (by omega)) rfl ?_
          rintro e L2 ⟨rfl, rfl⟩
          refine G.bin rfl ⟨_, rfl, rfl, rfl⟩ rfl rfl rfl rfl rfl ?_
          first | refine G.pickT rfl trivial rfl rfl rfl rfl ?_ | refine G.pickF rfl trivial rfl rfl rfl rfl ?_
          refine G.yes (t := 221) rfl (by omega) ?_
          refine G.assignB rfl trivial rfl rfl rfl ?_
          refine G.nil ?_
          refine C.ret ?_
          -- end c7Fg179F
          exact ⟨rfl, _, Res.of (rs := [.tmp 8]) rfl rfl, bg5, bs5, bc, bcl, b', W.take n, dc, sg5, sp5, _, rfl, hw5, ⟨_, s8, hv9, rfl⟩, by omega, rfl⟩
end
end Go.Proofs.Ytjfjmhmfhkdcbab
