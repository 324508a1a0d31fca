/-
  Two slots: written, saved, told: walked.
-/
import Derived.Test.YtjfjmhmfhkdcbabSu1
namespace Go.Proofs.Ytjfjmhmfhkdcbab
open Go Go.SL Go.RowKit

theorem clone_nil (W0 : World) (L : List Seg) (c : Nat) :
    FnS Try.prog W0 43 #[.slice none 0 c] L (fun e L' => ∃ v seg, OwnS v 0 (bytesV []) 5 1 seg ∧ L' = seg :: L ∧ e = .returned v) := by
  refine FnS.of (args := [.slice none 0 c]) Try.func43 rfl rfl ?_
  refine C.seq ?_
  refine C.region ?_
  refine G.assignS rfl trivial rfl rfl rfl ?_
  refine G.nil ?_
  refine C.seq ?_
  refine C.seq ?_
  refine C.region ?_
  refine G.moveS rfl trivial rfl rfl rfl ?_
  refine G.slEq rfl trivial rfl rfl Try.underlying34 rfl rfl ?_
  refine G.fix (d := 4) (v := .bool true) rfl ?_
  refine G.nil ?_
  refine C.condT rfl ?_
  refine C.seq ?_
  refine C.region ?_
  refine G.assignS rfl trivial rfl rfl rfl ?_
  refine G.nil ?_
  refine C.less (fun _ h => h.empty) ?_
  refine C.ret ?_
  -- end 
  exact ⟨rfl, _, Res.of (rs := [.tmp 2]) rfl rfl, .slice none 0 0, [], OwnS.nil _ _, rfl, rfl⟩
theorem clone_any (W0 : World) (L : List Seg) (a : Option Addr) (l c : Nat) (xs : List UInt8) (hl : l = xs.length) (hx : xs.length ≤ 1000000) (hr : Rd W0 L a (bytesV xs)) :
    FnS Try.prog W0 43 #[.slice a l c] L (fun e L' => ∃ v seg, OwnS v l (bytesV xs) 5 1 seg ∧ L' = seg :: L ∧ e = .returned v) := by
  cases a with
  | some a => exact clone_spec W0 L a l c xs hl hx hr
  | none =>
    have h0 : xs = [] := List.eq_nil_of_length_eq_zero (by have := hr.ne1 rfl; simpa using this)
    subst h0
    obtain rfl : l = 0 := hl
    exact clone_nil W0 L c
/-- what the two slots' keeper knows -/
structure Sp where
  at_ : Nat
  slot : Nat
  turn : Int
  text : List UInt8
abbrev spRow (bd : Nat) (p : Sp) (v : Value) : List Value := [ptr bd, .int .i64 (p.at_ : Int), .int .i64 (p.slot : Int), .int .i64 p.turn, v]
def SpIs (bs bd : Nat) (p : Sp) (sg : Seg) : Prop := ∃ v ts, OwnS v p.text.length (bytesV p.text) 5 1 ts ∧ sg = (bs, .row (spRow bd p v) 83 5) :: ts
theorem Mem.tailIn {W0 w : World} {s ts : Seg} {x : Nat × SObj} {L : List Seg} (h : Mem W0 w (s :: (x :: ts) :: L)) : Mem W0 w ((x :: s) :: L) := by
  have h1 : Mem W0 w ((x :: s) :: ts :: L) := h.of_flat (by
    simp only [List.flatten_cons, List.cons_append]
    exact List.perm_middle)
  exact h1.skip1
def swr (d : Dv) (i : Nat) (x : List UInt8) : Dv × Int := if d.isDead then (d, 5) else if (d.put i x).isDead then (d.put i x, 5) else ((d.put i x).flush, 0)
theorem swr_ok {d : Dv} (h : d.ok) (i : Nat) {x : List UInt8} (hx : x.length ≤ 64) : (swr d i x).1.ok := by
  unfold swr
  split
  · exact h
  · have h1 := Dv.put_ok h (by simp_all) (i := i) hx
    split
    · exact h1
    · exact Dv.flush_ok h1 (by simp_all)
theorem swr_length (d : Dv) (i : Nat) (x : List UInt8) : (swr d i x).1.l.length = d.l.length := by
  unfold swr
  split
  · rfl
  · split
    · simp [Dv.put]
    · simp [Dv.put, Dv.flush]
theorem zeros_cut (n : Nat) {b : List UInt8} (hb : b.length ≤ 51) : (((List.replicate 64 (0 : UInt8)).take 4 ++ be 8 n ++ (List.replicate 64 0).drop (4 + 8)).set 12 (UInt8.ofNat b.length)).take 13 ++ b ++ (((List.replicate 64 (0 : UInt8)).take 4 ++ be 8 n ++ (List.replicate 64 0).drop (4 + 8)).set 12 (UInt8.ofNat b.length)).drop (13 + b.length) = List.replicate 4 0 ++ bodyS n b := by
  have e1 : ((List.replicate 64 (0 : UInt8)).take 4 ++ be 8 n ++ (List.replicate 64 0).drop (4 + 8)).set 12 (UInt8.ofNat b.length) = List.replicate 4 0 ++ be 8 n ++ (UInt8.ofNat b.length :: List.replicate 51 0) := by
    rw [List.take_replicate, List.drop_replicate]
    rw [List.set_append_right _ _ (by rw [List.length_append, be_length, List.length_replicate]; decide), List.length_append, be_length, List.length_replicate]
    rfl
  have hl : (List.replicate 4 (0 : UInt8) ++ be 8 n).length = 12 := by rw [List.length_append, be_length, List.length_replicate]
  rw [e1]
  rw [show (13 : Nat) = (List.replicate 4 (0 : UInt8) ++ be 8 n).length + 1 by rw [hl], List.take_length_add_append, Nat.add_assoc, List.drop_length_add_append]
  rw [List.take_succ_cons, List.take_zero, show 1 + b.length = b.length + 1 by omega, List.drop_succ_cons, List.drop_replicate]
  unfold bodyS
  simp
theorem sum_cut (n : Nat) (b : List UInt8) : (List.replicate 4 (0 : UInt8) ++ bodyS n b).take 0 ++ be 4 (sumF (bodyS n b)) ++ (List.replicate 4 0 ++ bodyS n b).drop (0 + 4) = sectS n b := by
  unfold sectS
  rw [List.take_zero, List.nil_append, show 0 + 4 = (List.replicate 4 (0 : UInt8)).length by simp, List.drop_append_of_le_length (Nat.le_refl _), List.drop_length, List.nil_append]
theorem u64_of (n : Nat) (h : n < 2 ^ 64) : IntKind.u64.wrap (n : Int) = (n : Int) := wrap_in .u64 (by simp [IntKind.min, IntKind.max, IntKind.bits, IntKind.signed]; omega)
theorem write_at (W0 : World) (S L0 : List Seg) (bd bl : Nat) (d : Dv) (hd : d.ok) (hdead : d.isDead = false) (i : Nat) (hi : i < d.l.length) (a : Option Addr) (m c : Nat) (b : List UInt8) (hm : m = b.length) (hb : b.length ≤ 64) (hr : Rd W0 (S ++ (devSeg bd bl d.burn :: L0)) a (bytesV b)) :
    FnS Try.prog W0 34 #[ptr bd, .int .i64 (i : Int), .slice a m c] (S ++ (devSeg bd bl d :: L0)) (fun e L' => L' = S ++ (devSeg bd bl (d.put i b) :: L0) ∧ e = .returned (.int .i64 0)) := by
  subst hm
  exact write_ok W0 S L0 bd bl d hd hdead i hi a c b hb hr
section sup
variable (W0 : World) (L0 : List Seg) (bs bd bl : Nat)
theorem swrite_spec (d : Dv) (hd : d.ok) (p : Sp) (sg : Seg) (hsg : SpIs bs bd p sg) (k n : Nat) (hk : p.at_ + k < d.l.length) (hn : n < 2 ^ 63) (a : Option Addr) (c : Nat) (b : List UInt8) (hb : b.length ≤ 40) (hr : ∀ S : List Seg, Rd W0 (S ++ L0) a (bytesV b)) :
    FnS Try.prog W0 35 #[ptr bs, .int .i64 (k : Int), .int .i64 (n : Int), .slice a b.length c] (sg :: devSeg bd bl d :: L0)
      (fun e L' => ∃ sg', L' = sg' :: devSeg bd bl (swr d (p.at_ + k) (sectS n b)).1 :: L0 ∧ SpIs bs bd (if (swr d (p.at_ + k) (sectS n b)).2 = 0 then { p with slot := k, turn := n, text := b } else p) sg' ∧ e = .returned (.int .i64 (swr d (p.at_ + k) (sectS n b)).2)) := by
  obtain ⟨v0, ts, hv0, rfl⟩ := hsg
  have hlen := hd.2.1
  have hsl := sectS_length n (b := b) (by omega)
  refine FnS.of (args := [ptr bs, .int .i64 (k : Int), .int .i64 (n : Int), .slice a b.length c]) Try.func35 rfl rfl ?_
  refine C.seq ?_
  refine C.region ?_
  refine G.assignI rfl trivial rfl rfl rfl ?_
  refine G.nil ?_
  refine C.seq ?_
  refine C.region ?_
  refine G.makeBytes (l := 64) (c := 64) rfl trivial rfl rfl Try.underlying34 I5 rfl rfl (by decide) ?_
  intro bx
  refine G.assignS rfl trivial rfl rfl rfl ?_
  refine G.nil ?_
  refine C.seq ?_
  refine C.region ?_
  refine G.moveS rfl trivial rfl rfl rfl ?_
  refine G.sliceLH rfl trivial rfl rfl Try.underlying34 I5 rfl rfl rfl (by omega) ?_
  refine G.fix (d := 14) (v := .slice (some ⟨bx, 4, none⟩) 8 60) rfl ?_
  refine G.moveI rfl trivial rfl rfl rfl ?_
  refine G.convInt rfl trivial rfl rfl Try.underlying2 Try.underlying90 rfl ?_
  refine G.fix (d := 16) (v := .int .u64 (n : Int)) (by show Value.int .u64 _ = _; rw [u64_of n (by omega)]) ?_
  refine G.call E46 rfl rfl trivial rfl rfl (sput_spec W0 _ bx 64 4 8 60 (List.replicate 64 0) n (by simp only [List.length_replicate]; decide) (by decide)) rfl ?_
  rintro e L2 ⟨rfl, rfl⟩
  refine G.nil ?_
  refine C.seq ?_
  refine C.region ?_
  refine G.moveS rfl trivial rfl rfl rfl ?_
  refine G.moveS rfl trivial rfl rfl rfl ?_
  refine G.lenSlice rfl trivial rfl rfl Try.underlying34 rfl ?_
  refine G.convInt rfl trivial rfl rfl Try.underlying3 Try.underlying5 rfl ?_
  refine G.fix (d := 21) (v := .int .u8 ((UInt8.ofNat b.length).toNat : Int)) (u8_ofN b.length) ?_
  refine G.indexAddr rfl trivial rfl rfl Try.underlying34 I5 rfl rfl (by omega) ?_
  refine G.store .here rfl trivial rfl I5 rfl rfl rfl (by simp only [bytesV_length, List.length_append, be_length, List.length_take, List.length_drop, List.length_replicate]; decide) _ (bytesV_set _ 12 _) ?_
  refine G.nil ?_
  refine C.seq ?_
  refine C.region ?_
  refine G.moveS rfl trivial rfl rfl rfl ?_
  refine G.sliceL rfl trivial rfl rfl Try.underlying34 I5 rfl rfl (by omega) ?_
  refine G.fix (d := 24) (v := .slice (some ⟨bx, 13, none⟩) 51 51) rfl ?_
  refine G.moveS rfl trivial rfl rfl rfl ?_
  refine G.copyA (vs := bytesV b) .here rfl trivial rfl rfl Try.underlying34 I5 rfl rfl (by decide) (by rw [bytesV_length]; omega) ((hr [_, _, _]).mono fun _ h => h) bytesV_ok (by simp only [bytesV_length, List.length_set, List.length_append, be_length, List.length_take, List.length_drop, List.length_replicate]; omega) (bytesV (List.replicate 4 0 ++ bodyS n b)) (by rw [bytesV_length, bytesV_take, bytesV_drop, ← bytesV_append, ← bytesV_append, zeros_cut n (by omega)]) ?_
  refine G.nil ?_
  refine C.seq ?_
  refine C.drawn mixed (_) [6] (fun _ h => h) ?_
  refine GA.pure (i := 0) (fun _ _ _ _ _ h => h) rfl (by kernel_rfl) trivial rfl rfl (Y.moveS rfl rfl) (#[true, false, false, false, false, false, false]) (by kernel_rfl) ?_
  refine GA.pure (i := 1) (fun _ _ _ _ _ h => h) rfl (by kernel_rfl) trivial rfl rfl (Y.sliceH rfl Try.underlying34 I5 rfl rfl (by omega)) (#[true, true, false, false, false, false, false]) (by kernel_rfl) ?_
  refine GA.fix (d := 28) (v := .slice (some ⟨bx, 0, none⟩) 4 64) rfl ?_
  refine GA.pure (i := 2) (fun _ _ _ _ _ h => h) rfl (by kernel_rfl) trivial rfl rfl (Y.moveS rfl rfl) (#[true, true, true, false, false, false, false]) (by kernel_rfl) ?_
  refine GA.pure (i := 3) (fun _ _ _ _ _ h => h) rfl (by kernel_rfl) trivial rfl rfl (Y.sliceL rfl Try.underlying34 I5 rfl rfl (by omega)) (#[true, true, true, true, false, false, false]) (by kernel_rfl) ?_
  refine GA.fix (d := 30) (v := .slice (some ⟨bx, 4, none⟩) 60 60) rfl ?_
  refine GA.one (i := 4) rfl (by kernel_rfl) (#[true, true, true, true, true, false, false]) (by kernel_rfl) ?_
  refine G.call E42 rfl rfl trivial rfl rfl (sum_spec W0 _ (some ⟨bx, 4, none⟩) 60 (bodyS n b) (bodyS_length n (by omega)).symm (by rw [bodyS_length n (by omega)]; decide) (Rd.row .here (fun j hj => by rw [← List.getElem?_drop, bytesV_drop]; congr 1))) rfl ?_
  rintro e L2 ⟨rfl, rfl⟩
  refine G.nil ?_
  refine ⟨fun _ _ h => h, ?_⟩
  refine GA.pure (i := 5) (fun _ _ _ _ _ h => h) rfl (by kernel_rfl) trivial rfl rfl (Y.convInt rfl Try.underlying92 Try.underlying90 rfl) (#[true, true, true, true, true, true, false]) (by kernel_rfl) ?_
  refine GA.fix (d := 32) (v := .int .u64 (sumF (bodyS n b) : Nat)) (by show Value.int .u64 _ = _; rw [u64_of _ (by have := (moreS 0#32 (bodyS n b)).isLt; omega)]; rfl) ?_
  refine GA.one (i := 6) rfl (by kernel_rfl) (#[true, true, true, true, true, true, true]) (by kernel_rfl) ?_
  refine G.call E46 rfl rfl trivial rfl rfl (sput_spec W0 _ bx 64 0 4 64 (List.replicate 4 0 ++ bodyS n b) (sumF (bodyS n b)) (by rw [List.length_append, bodyS_length n (by omega), List.length_replicate]; decide) (by decide)) rfl ?_
  rintro e L2 ⟨rfl, rfl⟩
  rw [sum_cut]
  refine G.nil ?_
  refine ⟨fun _ h => absurd h (by simp [hit]), ?_⟩
  refine GA.done (by kernel_rfl) ?_
  refine C.seq ?_
  refine C.seq ?_
  refine C.drawn mixed (_) [11] (fun _ h => h) ?_
  refine GA.pure (i := 0) (fun _ _ _ _ _ h => h) rfl (by kernel_rfl) trivial rfl rfl (Y.moveP rfl rfl) (#[true, false, false, false, false, false, false, false, false, false, false, false, false]) (by kernel_rfl) ?_
  first | refine GA.pure (i := 1) (fun _ _ _ _ _ h => h) rfl (by kernel_rfl) trivial rfl rfl (Y.nilCheckP rfl rfl) (#[true, true, false, false, false, false, false, false, false, false, false, false, false]) (by kernel_rfl) ?_ | refine GA.pure (i := 1) (fun _ _ _ _ _ h => h) rfl (by kernel_rfl) trivial rfl rfl (Y.nilCheckF rfl rfl) (#[true, true, false, false, false, false, false, false, false, false, false, false, false]) (by kernel_rfl) ?_
  refine GA.pure (i := 2) (fun _ _ _ _ _ h => h) rfl (by kernel_rfl) trivial rfl rfl (Y.fieldAddr rfl Try.underlying83 rfl I24 rfl rfl) (#[true, true, true, false, false, false, false, false, false, false, false, false, false]) (by kernel_rfl) ?_
  refine GA.read (i := 3) (fun _ _ _ _ _ h => h) rfl (by kernel_rfl) (by kernel_rfl) trivial rfl rfl (Y.loadAt (by first | exact .here | exact .next .here | exact .next (.next .here) | exact .next (.next (.next .here)) | exact .next (.next (.next (.next .here))) | exact .next (.next (.next (.next (.next .here)))) | exact .next (.next (.next (.next (.next (.next .here))))) | exact .next (.next (.next (.next (.next (.next (.next .here)))))) | exact .in1 | exact .next .in1 | exact .next (.next .in1) | exact .next (.next (.next .in1)) | exact .next (.next (.next (.next .in1))) | exact .in2 | exact .next .in2 | exact .next (.next .in2) | exact .next (.next (.next .in2)) | exact .next (.next (.next (.next .in2))) | exact .app .here | exact .app (.next .here) | exact .app (.next (.next .here)) | exact .app (.next (.next (.next .here))) | exact .app (.next (.next (.next (.next .here)))) | exact .app (.next (.next (.next (.next (.next .here))))) | exact .app (.next (.next (.next (.next (.next (.next .here)))))) | exact .app (.next (.next (.next (.next (.next (.next (.next .here))))))) | exact .app .in1 | exact .app .in2 | exact .app (.next .in1) | exact .next (.app .in1) | exact .next (.next (.app .in1)) | exact .next (.app .here) | exact .next (.next (.app .here)) | exact .next (.next (.next (.app .here))) | exact .next (.next (.next (.next (.app .here))))) rfl Try.underlying24 rfl rfl (by rfl)) (#[true, true, true, true, false, false, false, false, false, false, false, false, false]) (by kernel_rfl) ?_
  refine GA.pure (i := 4) (fun _ _ _ _ _ h => h) rfl (by kernel_rfl) trivial rfl rfl (Y.moveP rfl rfl) (#[true, true, true, true, true, false, false, false, false, false, false, false, false]) (by kernel_rfl) ?_
  first | refine GA.pure (i := 5) (fun _ _ _ _ _ h => h) rfl (by kernel_rfl) trivial rfl rfl (Y.nilCheckP rfl rfl) (#[true, true, true, true, true, true, false, false, false, false, false, false, false]) (by kernel_rfl) ?_ | refine GA.pure (i := 5) (fun _ _ _ _ _ h => h) rfl (by kernel_rfl) trivial rfl rfl (Y.nilCheckF rfl rfl) (#[true, true, true, true, true, true, false, false, false, false, false, false, false]) (by kernel_rfl) ?_
  refine GA.pure (i := 6) (fun _ _ _ _ _ h => h) rfl (by kernel_rfl) trivial rfl rfl (Y.fieldAddr rfl Try.underlying83 rfl I3 rfl rfl) (#[true, true, true, true, true, true, true, false, false, false, false, false, false]) (by kernel_rfl) ?_
  refine GA.read (i := 7) (fun _ _ _ _ _ h => h) rfl (by kernel_rfl) (by kernel_rfl) trivial rfl rfl (Y.loadAt (by first | exact .here | exact .next .here | exact .next (.next .here) | exact .next (.next (.next .here)) | exact .next (.next (.next (.next .here))) | exact .next (.next (.next (.next (.next .here)))) | exact .next (.next (.next (.next (.next (.next .here))))) | exact .next (.next (.next (.next (.next (.next (.next .here)))))) | exact .in1 | exact .next .in1 | exact .next (.next .in1) | exact .next (.next (.next .in1)) | exact .next (.next (.next (.next .in1))) | exact .in2 | exact .next .in2 | exact .next (.next .in2) | exact .next (.next (.next .in2)) | exact .next (.next (.next (.next .in2))) | exact .app .here | exact .app (.next .here) | exact .app (.next (.next .here)) | exact .app (.next (.next (.next .here))) | exact .app (.next (.next (.next (.next .here)))) | exact .app (.next (.next (.next (.next (.next .here))))) | exact .app (.next (.next (.next (.next (.next (.next .here)))))) | exact .app (.next (.next (.next (.next (.next (.next (.next .here))))))) | exact .app .in1 | exact .app .in2 | exact .app (.next .in1) | exact .next (.app .in1) | exact .next (.next (.app .in1)) | exact .next (.app .here) | exact .next (.next (.app .here)) | exact .next (.next (.next (.app .here))) | exact .next (.next (.next (.next (.app .here))))) rfl Try.underlying3 rfl rfl (by rfl)) (#[true, true, true, true, true, true, true, true, false, false, false, false, false]) (by kernel_rfl) ?_
  refine GA.pure (i := 8) (fun _ _ _ _ _ h => h) rfl (by kernel_rfl) trivial rfl rfl (Y.moveI rfl rfl) (#[true, true, true, true, true, true, true, true, true, false, false, false, false]) (by kernel_rfl) ?_
  refine GA.pure (i := 9) (fun _ _ _ _ _ h => h) rfl (by kernel_rfl) trivial rfl rfl (Y.add rfl rfl rfl (by omega)) (#[true, true, true, true, true, true, true, true, true, true, false, false, false]) (by kernel_rfl) ?_
  refine GA.fix (d := 43) (v := .int .i64 ((p.at_ + k : Nat) : Int)) (by show Value.int .i64 _ = _; congr 1) ?_
  refine GA.pure (i := 10) (fun _ _ _ _ _ h => h) rfl (by kernel_rfl) trivial rfl rfl (Y.moveS rfl rfl) (#[true, true, true, true, true, true, true, true, true, true, true, false, false]) (by kernel_rfl) ?_
  by_cases hdead : d.isDead = true
  ·
    refine GA.one (i := 11) rfl (by kernel_rfl) (#[true, true, true, true, true, true, true, true, true, true, true, true, false]) (by kernel_rfl) ?_
    refine G.call E34 rfl rfl trivial rfl rfl (write_dead W0 [_, _] _ bd bl d hdead _ _ _ _) rfl ?_
    rintro e L2 ⟨rfl, rfl⟩
    refine G.nil ?_
    refine ⟨fun _ h => absurd h (by simp [hit]), ?_⟩
    refine GA.pure (i := 12) (fun _ _ _ _ _ h => h) rfl (by kernel_rfl) trivial rfl rfl (Y.assignI rfl rfl) (#[true, true, true, true, true, true, true, true, true, true, true, true, true]) (by kernel_rfl) ?_
    refine GA.done (by kernel_rfl) ?_
    refine C.seq ?_
    refine C.region ?_
    refine G.moveI rfl trivial rfl rfl rfl ?_
    refine G.bin rfl trivial rfl rfl rfl rfl rfl ?_
    refine G.nil ?_
    refine C.yes rfl (by simp) ?_
    refine C.seq ?_
    refine C.region ?_
    refine G.moveI rfl trivial rfl rfl rfl ?_
    refine G.assignI rfl trivial rfl rfl rfl ?_
    refine G.nil ?_
    refine C.less (fun _ h => h.tail) ?_
    refine C.ret ?_
    -- end x45T
    exact ⟨rfl, _, Res.of (rs := [.tmp 8]) rfl rfl, _, by rw [swr, if_pos hdead]; rfl, by rw [swr, if_pos hdead]; exact ⟨v0, ts, hv0, rfl⟩, by rw [swr, if_pos hdead]; rfl⟩
  ·
    refine GA.one (i := 11) rfl (by kernel_rfl) (#[true, true, true, true, true, true, true, true, true, true, true, true, false]) (by kernel_rfl) ?_
    refine G.call E34 rfl rfl trivial rfl rfl (write_at W0 [_, _] _ bd bl d hd (by simpa using hdead) (p.at_ + k) hk _ 64 64 (sectS n b) hsl.symm (by omega) (Rd.row0 .here)) rfl ?_
    rintro e L2 ⟨rfl, rfl⟩
    have hok1 := Dv.put_ok hd (by simpa using hdead) (i := p.at_ + k) (b := sectS n b) (by omega)
    refine G.nil ?_
    refine ⟨fun _ h => absurd h (by simp [hit]), ?_⟩
    refine GA.pure (i := 12) (fun _ _ _ _ _ h => h) rfl (by kernel_rfl) trivial rfl rfl (Y.assignI rfl rfl) (#[true, true, true, true, true, true, true, true, true, true, true, true, true]) (by kernel_rfl) ?_
    refine GA.done (by kernel_rfl) ?_
    refine C.seq ?_
    refine C.region ?_
    refine G.moveI rfl trivial rfl rfl rfl ?_
    refine G.bin rfl trivial rfl rfl rfl rfl rfl ?_
    refine G.nil ?_
    refine C.no rfl (by simp) ?_
    refine C.skip ?_
    refine C.seq ?_
    refine C.seq ?_
    refine C.region ?_
    refine G.moveP rfl trivial rfl rfl rfl ?_
    first | refine G.nilCheckP rfl trivial rfl rfl rfl ?_ | refine G.nilCheckF rfl trivial rfl rfl rfl ?_
    refine G.fieldAddr rfl trivial rfl rfl Try.underlying83 rfl I24 rfl rfl ?_
    refine G.loadAt (by first | exact .here | exact .next .here | exact .next (.next .here) | exact .next (.next (.next .here)) | exact .next (.next (.next (.next .here))) | exact .next (.next (.next (.next (.next .here)))) | exact .next (.next (.next (.next (.next (.next .here))))) | exact .next (.next (.next (.next (.next (.next (.next .here)))))) | exact .in1 | exact .next .in1 | exact .next (.next .in1) | exact .next (.next (.next .in1)) | exact .next (.next (.next (.next .in1))) | exact .in2 | exact .next .in2 | exact .next (.next .in2) | exact .next (.next (.next .in2)) | exact .next (.next (.next (.next .in2))) | exact .app .here | exact .app (.next .here) | exact .app (.next (.next .here)) | exact .app (.next (.next (.next .here))) | exact .app (.next (.next (.next (.next .here)))) | exact .app (.next (.next (.next (.next (.next .here))))) | exact .app (.next (.next (.next (.next (.next (.next .here)))))) | exact .app (.next (.next (.next (.next (.next (.next (.next .here))))))) | exact .app .in1 | exact .app .in2 | exact .app (.next .in1) | exact .next (.app .in1) | exact .next (.next (.app .in1)) | exact .next (.app .here) | exact .next (.next (.app .here)) | exact .next (.next (.next (.app .here))) | exact .next (.next (.next (.next (.app .here))))) rfl trivial rfl rfl Try.underlying24 rfl rfl (by rfl) ?_
    by_cases hdead2 : (d.put (p.at_ + k) (sectS n b)).isDead = true
    ·
      refine G.call E40 rfl rfl trivial rfl rfl (flush_dead W0 [_, _] _ bd bl _ hdead2) rfl ?_
      rintro e L2 ⟨rfl, rfl⟩
      refine G.assignI rfl trivial rfl rfl rfl ?_
      refine G.nil ?_
      refine C.seq ?_
      refine C.region ?_
      refine G.moveI rfl trivial rfl rfl rfl ?_
      refine G.bin rfl trivial rfl rfl rfl rfl rfl ?_
      refine G.nil ?_
      refine C.yes rfl (by simp) ?_
      refine C.seq ?_
      refine C.region ?_
      refine G.moveI rfl trivial rfl rfl rfl ?_
      refine G.assignI rfl trivial rfl rfl rfl ?_
      refine G.nil ?_
      refine C.less (fun _ h => h.tail) ?_
      refine C.ret ?_
      -- end x45Fx53T
      exact ⟨rfl, _, Res.of (rs := [.tmp 8]) rfl rfl, _, by rw [swr, if_neg hdead, if_pos hdead2]; rfl, by rw [swr, if_neg hdead, if_pos hdead2]; exact ⟨v0, ts, hv0, rfl⟩, by rw [swr, if_neg hdead, if_pos hdead2]; rfl⟩
    ·
      refine G.call E40 rfl rfl trivial rfl rfl (flush_ok W0 [_, _] _ bd bl _ hok1 (by simpa using hdead2)) rfl ?_
      rintro e L2 ⟨rfl, rfl⟩
      refine G.assignI rfl trivial rfl rfl rfl ?_
      refine G.nil ?_
      refine C.seq ?_
      refine C.region ?_
      refine G.moveI rfl trivial rfl rfl rfl ?_
      refine G.bin rfl trivial rfl rfl rfl rfl rfl ?_
      refine G.nil ?_
      refine C.no rfl (by simp) ?_
      refine C.skip ?_
      refine C.seq ?_
      refine C.region ?_
      refine G.moveP rfl trivial rfl rfl rfl ?_
      refine G.moveP rfl trivial rfl rfl rfl ?_
      refine G.moveP rfl trivial rfl rfl rfl ?_
      refine G.moveI rfl trivial rfl rfl rfl ?_
      refine G.moveI rfl trivial rfl rfl rfl ?_
      refine G.moveS rfl trivial rfl rfl rfl ?_
      refine G.call E43 rfl rfl trivial rfl rfl (clone_any W0 _ a b.length c b rfl (by omega) ((hr [_, _, _]).mono fun _ h => h)) rfl ?_
      rintro e L2 ⟨v63, s63, hv63, rfl, rfl⟩
      obtain ⟨a63, c63, rfl, _⟩ := hv63.form
      first | refine G.nilCheckP rfl trivial rfl rfl rfl ?_ | refine G.nilCheckF rfl trivial rfl rfl rfl ?_
      refine G.fieldAddr rfl trivial rfl rfl Try.underlying83 rfl I3 rfl rfl ?_
      refine G.store (v := .int _ _) (by first | exact .here | exact .next .here | exact .next (.next .here) | exact .next (.next (.next .here)) | exact .next (.next (.next (.next .here))) | exact .next (.next (.next (.next (.next .here)))) | exact .next (.next (.next (.next (.next (.next .here))))) | exact .next (.next (.next (.next (.next (.next (.next .here)))))) | exact .in1 | exact .next .in1 | exact .next (.next .in1) | exact .next (.next (.next .in1)) | exact .next (.next (.next (.next .in1))) | exact .in2 | exact .next .in2 | exact .next (.next .in2) | exact .next (.next (.next .in2)) | exact .next (.next (.next (.next .in2))) | exact .app .here | exact .app (.next .here) | exact .app (.next (.next .here)) | exact .app (.next (.next (.next .here))) | exact .app (.next (.next (.next (.next .here)))) | exact .app (.next (.next (.next (.next (.next .here))))) | exact .app (.next (.next (.next (.next (.next (.next .here)))))) | exact .app (.next (.next (.next (.next (.next (.next (.next .here))))))) | exact .app .in1 | exact .app .in2 | exact .app (.next .in1) | exact .next (.app .in1) | exact .next (.next (.app .in1)) | exact .next (.app .here) | exact .next (.next (.app .here)) | exact .next (.next (.next (.app .here))) | exact .next (.next (.next (.next (.app .here))))) rfl trivial rfl I3 rfl rfl rfl (by first | decide | (simp; done) | (simp; omega)) _ (by first | (simp only [List.set_cons_succ, List.set_cons_zero]; done) | (simp only [List.set_cons_succ, List.set_cons_zero]; exact rfl) | exact rfl) ?_
      first | refine G.nilCheckP rfl trivial rfl rfl rfl ?_ | refine G.nilCheckF rfl trivial rfl rfl rfl ?_
      refine G.fieldAddr rfl trivial rfl rfl Try.underlying83 rfl I2 rfl rfl ?_
      refine G.store (v := .int _ _) (by first | exact .here | exact .next .here | exact .next (.next .here) | exact .next (.next (.next .here)) | exact .next (.next (.next (.next .here))) | exact .next (.next (.next (.next (.next .here)))) | exact .next (.next (.next (.next (.next (.next .here))))) | exact .next (.next (.next (.next (.next (.next (.next .here)))))) | exact .in1 | exact .next .in1 | exact .next (.next .in1) | exact .next (.next (.next .in1)) | exact .next (.next (.next (.next .in1))) | exact .in2 | exact .next .in2 | exact .next (.next .in2) | exact .next (.next (.next .in2)) | exact .next (.next (.next (.next .in2))) | exact .app .here | exact .app (.next .here) | exact .app (.next (.next .here)) | exact .app (.next (.next (.next .here))) | exact .app (.next (.next (.next (.next .here)))) | exact .app (.next (.next (.next (.next (.next .here))))) | exact .app (.next (.next (.next (.next (.next (.next .here)))))) | exact .app (.next (.next (.next (.next (.next (.next (.next .here))))))) | exact .app .in1 | exact .app .in2 | exact .app (.next .in1) | exact .next (.app .in1) | exact .next (.next (.app .in1)) | exact .next (.app .here) | exact .next (.next (.app .here)) | exact .next (.next (.next (.app .here))) | exact .next (.next (.next (.next (.app .here))))) rfl trivial rfl I2 rfl rfl rfl (by first | decide | (simp; done) | (simp; omega)) _ (by first | (simp only [List.set_cons_succ, List.set_cons_zero]; done) | (simp only [List.set_cons_succ, List.set_cons_zero]; exact rfl) | exact rfl) ?_
      first | refine G.nilCheckP rfl trivial rfl rfl rfl ?_ | refine G.nilCheckF rfl trivial rfl rfl rfl ?_
      refine G.fieldAddr rfl trivial rfl rfl Try.underlying83 rfl I34 rfl rfl ?_
      refine G.store (v := .slice _ _ _) (by first | exact .here | exact .next .here | exact .next (.next .here) | exact .next (.next (.next .here)) | exact .next (.next (.next (.next .here))) | exact .next (.next (.next (.next (.next .here)))) | exact .next (.next (.next (.next (.next (.next .here))))) | exact .next (.next (.next (.next (.next (.next (.next .here)))))) | exact .in1 | exact .next .in1 | exact .next (.next .in1) | exact .next (.next (.next .in1)) | exact .next (.next (.next (.next .in1))) | exact .in2 | exact .next .in2 | exact .next (.next .in2) | exact .next (.next (.next .in2)) | exact .next (.next (.next (.next .in2))) | exact .app .here | exact .app (.next .here) | exact .app (.next (.next .here)) | exact .app (.next (.next (.next .here))) | exact .app (.next (.next (.next (.next .here)))) | exact .app (.next (.next (.next (.next (.next .here))))) | exact .app (.next (.next (.next (.next (.next (.next .here)))))) | exact .app (.next (.next (.next (.next (.next (.next (.next .here))))))) | exact .app .in1 | exact .app .in2 | exact .app (.next .in1) | exact .next (.app .in1) | exact .next (.next (.app .in1)) | exact .next (.app .here) | exact .next (.next (.app .here)) | exact .next (.next (.next (.app .here))) | exact .next (.next (.next (.next (.app .here))))) rfl trivial rfl I34 rfl rfl rfl (by first | decide | (simp; done) | (simp; omega)) _ (by first | (simp only [List.set_cons_succ, List.set_cons_zero]; done) | (simp only [List.set_cons_succ, List.set_cons_zero]; exact rfl) | exact rfl) ?_
      refine G.less (fun _ h => (Mem.tailIn (h.perm2.tail) : Mem _ _ _)) ?_
      refine G.nil ?_
      refine C.seq ?_
      refine C.region ?_
      refine G.assignI rfl trivial rfl rfl rfl ?_
      refine G.nil ?_
      refine C.ret ?_
      -- end x45Fx53F
      exact ⟨rfl, _, Res.of (rs := [.tmp 8]) rfl rfl, _, by rw [swr, if_neg hdead, if_neg hdead2]; rfl, by rw [swr, if_neg hdead, if_neg hdead2]; exact ⟨_, _, hv63, rfl⟩, by rw [swr, if_neg hdead, if_neg hdead2]; rfl⟩
end sup
end Go.Proofs.Ytjfjmhmfhkdcbab
