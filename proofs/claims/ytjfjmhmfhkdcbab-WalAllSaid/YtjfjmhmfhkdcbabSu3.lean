/-
  Two slots: saved, told, made, opened: walked.
-/
import Derived.Test.YtjfjmhmfhkdcbabSu2
namespace Go.Proofs.Ytjfjmhmfhkdcbab
open Go Go.SL Go.RowKit

section sup
variable (W0 : World) (S L0 : List Seg) (bs bd bl : Nat)
theorem save_spec (d : Dv) (hd : d.ok) (p : Sp) (sg : Seg) (hsg : SpIs bs bd p sg) (t : Nat) (ht : p.turn = (t : Int)) (ht2 : t < 1000000) (hs : p.slot ≤ 1) (hk : p.at_ + 1 < d.l.length) (a : Option Addr) (c : Nat) (b : List UInt8) (hb : b.length ≤ 40) (hr : ∀ S : List Seg, Rd W0 (S ++ L0) a (bytesV b)) :
    FnS Try.prog W0 27 #[ptr bs, .slice a b.length c] (sg :: devSeg bd bl d :: L0)
      (fun e L' => ∃ sg', L' = sg' :: devSeg bd bl (swr d (p.at_ + (1 - p.slot)) (sectS (t + 1) b)).1 :: L0 ∧ SpIs bs bd (if (swr d (p.at_ + (1 - p.slot)) (sectS (t + 1) b)).2 = 0 then { p with slot := 1 - p.slot, turn := ((t + 1 : Nat) : Int), text := b } else p) sg' ∧ e = .returned (.int .i64 (swr d (p.at_ + (1 - p.slot)) (sectS (t + 1) b)).2)) := by
  have hsg0 := hsg
  obtain ⟨v0, ts, hv0, rfl⟩ := hsg
  refine FnS.of (args := [ptr bs, .slice a b.length c]) Try.func27 rfl rfl ?_
  refine C.seq ?_
  refine C.region ?_
  refine G.assignI rfl trivial rfl rfl rfl ?_
  refine G.nil ?_
  refine C.seq ?_
  refine C.block ?_
  refine C.seq ?_
  refine C.region ?_
  refine G.moveP rfl trivial rfl rfl rfl ?_
  refine G.ptrEq rfl trivial rfl rfl Try.underlying59 rfl rfl ?_
  refine G.fix (d := 7) (v := .bool false) rfl ?_
  refine G.assignB rfl trivial rfl rfl rfl ?_
  refine G.nil ?_
  refine C.condF rfl ?_
  refine C.seq ?_
  refine C.region ?_
  refine G.moveS rfl trivial rfl rfl rfl ?_
  refine G.lenSlice rfl trivial rfl rfl Try.underlying34 rfl ?_
  refine G.bin rfl trivial rfl rfl rfl rfl rfl ?_
  refine G.assignB rfl trivial rfl rfl rfl ?_
  refine G.nil ?_
  refine C.no rfl (by omega) ?_
  refine C.skip ?_
  refine C.seq ?_
  refine C.drawn mixed (_) [12] (fun _ h => h) ?_
  refine GA.pure (i := 0) (fun _ _ _ _ _ h => h) rfl (by kernel_rfl) trivial rfl rfl (Y.moveP rfl rfl) (#[true, false, false, false, false, false, false, false, false, false, false, false, false, false]) (by kernel_rfl) ?_
  refine GA.pure (i := 1) (fun _ _ _ _ _ h => h) rfl (by kernel_rfl) trivial rfl rfl (Y.moveP rfl rfl) (#[true, true, false, false, false, false, false, false, false, false, false, false, false, false]) (by kernel_rfl) ?_
  first | refine GA.pure (i := 2) (fun _ _ _ _ _ h => h) rfl (by kernel_rfl) trivial rfl rfl (Y.nilCheckP rfl rfl) (#[true, true, true, false, false, false, false, false, false, false, false, false, false, false]) (by kernel_rfl) ?_ | refine GA.pure (i := 2) (fun _ _ _ _ _ h => h) rfl (by kernel_rfl) trivial rfl rfl (Y.nilCheckF rfl rfl) (#[true, true, true, false, false, false, false, false, false, false, false, false, false, false]) (by kernel_rfl) ?_
  refine GA.pure (i := 3) (fun _ _ _ _ _ h => h) rfl (by kernel_rfl) trivial rfl rfl (Y.fieldAddr rfl Try.underlying83 rfl I3 rfl rfl) (#[true, true, true, true, false, false, false, false, false, false, false, false, false, false]) (by kernel_rfl) ?_
  refine GA.read (i := 4) (fun _ _ _ _ _ h => h) rfl (by kernel_rfl) (by kernel_rfl) trivial rfl rfl (Y.loadAt (by first | exact .here | exact .next .here | exact .next (.next .here) | exact .next (.next (.next .here)) | exact .next (.next (.next (.next .here))) | exact .next (.next (.next (.next (.next .here)))) | exact .next (.next (.next (.next (.next (.next .here))))) | exact .next (.next (.next (.next (.next (.next (.next .here)))))) | exact .in1 | exact .next .in1 | exact .next (.next .in1) | exact .next (.next (.next .in1)) | exact .next (.next (.next (.next .in1))) | exact .in2 | exact .next .in2 | exact .next (.next .in2) | exact .next (.next (.next .in2)) | exact .next (.next (.next (.next .in2))) | exact .app .here | exact .app (.next .here) | exact .app (.next (.next .here)) | exact .app (.next (.next (.next .here))) | exact .app (.next (.next (.next (.next .here)))) | exact .app (.next (.next (.next (.next (.next .here))))) | exact .app (.next (.next (.next (.next (.next (.next .here)))))) | exact .app (.next (.next (.next (.next (.next (.next (.next .here))))))) | exact .app .in1 | exact .app .in2 | exact .app (.next .in1) | exact .next (.app .in1) | exact .next (.next (.app .in1)) | exact .next (.app .here) | exact .next (.next (.app .here)) | exact .next (.next (.next (.app .here))) | exact .next (.next (.next (.next (.app .here))))) rfl Try.underlying3 rfl rfl (by rfl)) (#[true, true, true, true, true, false, false, false, false, false, false, false, false, false]) (by kernel_rfl) ?_
  refine GA.pure (i := 5) (fun _ _ _ _ _ h => h) rfl (by kernel_rfl) trivial rfl rfl (Y.sub rfl rfl rfl (by omega)) (#[true, true, true, true, true, true, false, false, false, false, false, false, false, false]) (by kernel_rfl) ?_
  refine GA.fix (d := 17) (v := .int .i64 ((1 - p.slot : Nat) : Int)) (by show Value.int .i64 _ = _; congr 1; omega) ?_
  refine GA.pure (i := 6) (fun _ _ _ _ _ h => h) rfl (by kernel_rfl) trivial rfl rfl (Y.moveP rfl rfl) (#[true, true, true, true, true, true, true, false, false, false, false, false, false, false]) (by kernel_rfl) ?_
  first | refine GA.pure (i := 7) (fun _ _ _ _ _ h => h) rfl (by kernel_rfl) trivial rfl rfl (Y.nilCheckP rfl rfl) (#[true, true, true, true, true, true, true, true, false, false, false, false, false, false]) (by kernel_rfl) ?_ | refine GA.pure (i := 7) (fun _ _ _ _ _ h => h) rfl (by kernel_rfl) trivial rfl rfl (Y.nilCheckF rfl rfl) (#[true, true, true, true, true, true, true, true, false, false, false, false, false, false]) (by kernel_rfl) ?_
  refine GA.pure (i := 8) (fun _ _ _ _ _ h => h) rfl (by kernel_rfl) trivial rfl rfl (Y.fieldAddr rfl Try.underlying83 rfl I2 rfl rfl) (#[true, true, true, true, true, true, true, true, true, false, false, false, false, false]) (by kernel_rfl) ?_
  refine GA.read (i := 9) (fun _ _ _ _ _ h => h) rfl (by kernel_rfl) (by kernel_rfl) trivial rfl rfl (Y.loadAt (by first | exact .here | exact .next .here | exact .next (.next .here) | exact .next (.next (.next .here)) | exact .next (.next (.next (.next .here))) | exact .next (.next (.next (.next (.next .here)))) | exact .next (.next (.next (.next (.next (.next .here))))) | exact .next (.next (.next (.next (.next (.next (.next .here)))))) | exact .in1 | exact .next .in1 | exact .next (.next .in1) | exact .next (.next (.next .in1)) | exact .next (.next (.next (.next .in1))) | exact .in2 | exact .next .in2 | exact .next (.next .in2) | exact .next (.next (.next .in2)) | exact .next (.next (.next (.next .in2))) | exact .app .here | exact .app (.next .here) | exact .app (.next (.next .here)) | exact .app (.next (.next (.next .here))) | exact .app (.next (.next (.next (.next .here)))) | exact .app (.next (.next (.next (.next (.next .here))))) | exact .app (.next (.next (.next (.next (.next (.next .here)))))) | exact .app (.next (.next (.next (.next (.next (.next (.next .here))))))) | exact .app .in1 | exact .app .in2 | exact .app (.next .in1) | exact .next (.app .in1) | exact .next (.next (.app .in1)) | exact .next (.app .here) | exact .next (.next (.app .here)) | exact .next (.next (.next (.app .here))) | exact .next (.next (.next (.next (.app .here))))) rfl Try.underlying2 rfl rfl (by rfl)) (#[true, true, true, true, true, true, true, true, true, true, false, false, false, false]) (by kernel_rfl) ?_
  refine GA.pure (i := 10) (fun _ _ _ _ _ h => h) rfl (by kernel_rfl) trivial rfl rfl (Y.add rfl rfl rfl (by omega)) (#[true, true, true, true, true, true, true, true, true, true, true, false, false, false]) (by kernel_rfl) ?_
  refine GA.fix (d := 22) (v := .int .i64 ((t + 1 : Nat) : Int)) (by show Value.int .i64 _ = _; rw [ht]; congr 1) ?_
  refine GA.pure (i := 11) (fun _ _ _ _ _ h => h) rfl (by kernel_rfl) trivial rfl rfl (Y.moveS rfl rfl) (#[true, true, true, true, true, true, true, true, true, true, true, true, false, false]) (by kernel_rfl) ?_
  refine GA.one (i := 12) rfl (by kernel_rfl) (#[true, true, true, true, true, true, true, true, true, true, true, true, true, false]) (by kernel_rfl) ?_
  refine G.call E35 rfl rfl trivial rfl rfl (swrite_spec W0 L0 bs bd bl d hd p _ hsg0 (1 - p.slot) (t + 1) (by omega) (by omega) a c b hb hr) rfl ?_
  rintro e L2 ⟨sg1, rfl, hsg1, rfl⟩
  refine G.nil ?_
  refine ⟨fun _ h => absurd h (by simp [hit]), ?_⟩
  refine GA.pure (i := 13) (fun _ _ _ _ _ h => h) rfl (by kernel_rfl) trivial rfl rfl (Y.assignI rfl rfl) (#[true, true, true, true, true, true, true, true, true, true, true, true, true, true]) (by kernel_rfl) ?_
  refine GA.done (by kernel_rfl) ?_
  refine C.ret ?_
  -- end 
  exact ⟨rfl, _, Res.of (rs := [.tmp 4]) rfl rfl, sg1, rfl, hsg1, rfl⟩
theorem save_form (p : Sp) (sg : Seg) (L : List Seg) (a : Option Addr) (m c : Nat) (hm : 40 < m) :
    FnS Try.prog W0 27 #[ptr bs, .slice a m c] L (fun e L' => L' = L ∧ e = .returned (.int .i64 1)) := by
  refine FnS.of (args := [ptr bs, .slice a m c]) Try.func27 rfl rfl ?_
  refine C.seq ?_
  refine C.region ?_
  refine G.assignI rfl trivial rfl rfl rfl ?_
  refine G.nil ?_
  refine C.seq ?_
  refine C.block ?_
  refine C.seq ?_
  refine C.region ?_
  refine G.moveP rfl trivial rfl rfl rfl ?_
  refine G.ptrEq rfl trivial rfl rfl Try.underlying59 rfl rfl ?_
  refine G.fix (d := 7) (v := .bool false) rfl ?_
  refine G.assignB rfl trivial rfl rfl rfl ?_
  refine G.nil ?_
  refine C.condF rfl ?_
  refine C.seq ?_
  refine C.region ?_
  refine G.moveS rfl trivial rfl rfl rfl ?_
  refine G.lenSlice rfl trivial rfl rfl Try.underlying34 rfl ?_
  refine G.bin rfl trivial rfl rfl rfl rfl rfl ?_
  refine G.assignB rfl trivial rfl rfl rfl ?_
  refine G.nil ?_
  refine C.yes rfl (by omega) ?_
  refine C.seq ?_
  refine C.region ?_
  refine G.assignI rfl trivial rfl rfl rfl ?_
  refine G.nil ?_
  refine C.ret ?_
  -- end 
  exact ⟨rfl, _, Res.of (rs := [.tmp 4]) rfl rfl, rfl, rfl⟩
theorem save_nil (L : List Seg) (a : Option Addr) (m c : Nat) :
    FnS Try.prog W0 27 #[.pointer none, .slice a m c] L (fun e L' => L' = L ∧ e = .returned (.int .i64 5)) := by
  refine FnS.of (args := [.pointer none, .slice a m c]) Try.func27 rfl rfl ?_
  refine C.seq ?_
  refine C.region ?_
  refine G.assignI rfl trivial rfl rfl rfl ?_
  refine G.nil ?_
  refine C.seq ?_
  refine C.block ?_
  refine C.seq ?_
  refine C.region ?_
  refine G.moveP rfl trivial rfl rfl rfl ?_
  refine G.ptrEq rfl trivial rfl rfl Try.underlying59 rfl rfl ?_
  refine G.fix (d := 7) (v := .bool true) rfl ?_
  refine G.assignB rfl trivial rfl rfl rfl ?_
  refine G.nil ?_
  refine C.condT rfl ?_
  refine C.seq ?_
  refine C.region ?_
  refine G.assignI rfl trivial rfl rfl rfl ?_
  refine G.nil ?_
  refine C.ret ?_
  -- end 
  exact ⟨rfl, _, Res.of (rs := [.tmp 4]) rfl rfl, rfl, rfl⟩
theorem sub_in {ts : Seg} {x : Nat × SObj} {W0 w : World} (h : Mem W0 w (S ++ ((x :: ts) :: L0))) : Mem W0 w (ts :: []) := h.fewer (by
  simp only [List.flatten_append, List.flatten_cons, List.flatten_nil, List.append_nil, List.cons_append]
  exact (((List.sublist_append_left ts _).trans (List.sublist_cons_self _ _)).trans (List.sublist_append_right _ _)))
theorem text_spec (p : Sp) (sg : Seg) (hsg : SpIs bs bd p sg) (hp : p.text.length ≤ 1000) :
    FnS Try.prog W0 30 #[ptr bs] (S ++ (sg :: L0)) (fun e L' => ∃ v seg, OwnS v p.text.length (bytesV p.text) 5 1 seg ∧ L' = seg :: (S ++ (sg :: L0)) ∧ e = .returned v) := by
  obtain ⟨v0, ts, hv0, rfl⟩ := hsg
  obtain ⟨a0, c0, rfl, hr0⟩ := hv0.form
  refine FnS.of (args := [ptr bs]) Try.func30 rfl rfl ?_
  refine C.seq ?_
  refine C.region ?_
  refine G.assignS rfl trivial rfl rfl rfl ?_
  refine G.nil ?_
  refine C.seq ?_
  refine C.seq ?_
  refine C.region ?_
  refine G.moveP rfl trivial rfl rfl rfl ?_
  refine G.ptrEq rfl trivial rfl rfl Try.underlying59 rfl rfl ?_
  refine G.fix (d := 4) (v := .bool false) rfl ?_
  refine G.nil ?_
  refine C.condF rfl ?_
  refine C.skip ?_
  refine C.seq ?_
  refine C.region ?_
  refine G.moveP rfl trivial rfl rfl rfl ?_
  first | refine G.nilCheckP rfl trivial rfl rfl rfl ?_ | refine G.nilCheckF rfl trivial rfl rfl rfl ?_
  refine G.fieldAddr rfl trivial rfl rfl Try.underlying83 rfl I34 rfl rfl ?_
  refine G.loadAt (by first | exact .here | exact .next .here | exact .next (.next .here) | exact .next (.next (.next .here)) | exact .next (.next (.next (.next .here))) | exact .next (.next (.next (.next (.next .here)))) | exact .next (.next (.next (.next (.next (.next .here))))) | exact .next (.next (.next (.next (.next (.next (.next .here)))))) | exact .in1 | exact .next .in1 | exact .next (.next .in1) | exact .next (.next (.next .in1)) | exact .next (.next (.next (.next .in1))) | exact .in2 | exact .next .in2 | exact .next (.next .in2) | exact .next (.next (.next .in2)) | exact .next (.next (.next (.next .in2))) | exact .app .here | exact .app (.next .here) | exact .app (.next (.next .here)) | exact .app (.next (.next (.next .here))) | exact .app (.next (.next (.next (.next .here)))) | exact .app (.next (.next (.next (.next (.next .here))))) | exact .app (.next (.next (.next (.next (.next (.next .here)))))) | exact .app (.next (.next (.next (.next (.next (.next (.next .here))))))) | exact .app .in1 | exact .app .in2 | exact .app (.next .in1) | exact .next (.app .in1) | exact .next (.next (.app .in1)) | exact .next (.app .here) | exact .next (.next (.app .here)) | exact .next (.next (.next (.app .here))) | exact .next (.next (.next (.next (.app .here))))) rfl trivial rfl rfl Try.underlying34 rfl rfl (by rfl) ?_
  refine G.call E43 rfl rfl trivial rfl rfl (clone_any W0 _ a0 _ c0 p.text rfl (by omega) ((hr0 W0 []).mono fun _ h => sub_in S L0 h)) rfl ?_
  rintro e L2 ⟨v9, s9, hv9, rfl, rfl⟩
  obtain ⟨a9, c9, rfl, _⟩ := hv9.form
  refine G.assignS rfl trivial rfl rfl rfl ?_
  refine G.nil ?_
  refine C.ret ?_
  -- end 
  exact ⟨rfl, _, Res.of (rs := [.tmp 2]) rfl rfl, _, s9, hv9, rfl, rfl⟩
theorem text_nil (L : List Seg) :
    FnS Try.prog W0 30 #[.pointer none] L (fun e L' => L' = L ∧ e = .returned (.slice none 0 0)) := by
  refine FnS.of (args := [.pointer none]) Try.func30 rfl rfl ?_
  refine C.seq ?_
  refine C.region ?_
  refine G.assignS rfl trivial rfl rfl rfl ?_
  refine G.nil ?_
  refine C.seq ?_
  refine C.seq ?_
  refine C.region ?_
  refine G.moveP rfl trivial rfl rfl rfl ?_
  refine G.ptrEq rfl trivial rfl rfl Try.underlying59 rfl rfl ?_
  refine G.fix (d := 4) (v := .bool true) rfl ?_
  refine G.nil ?_
  refine C.condT rfl ?_
  refine C.seq ?_
  refine C.region ?_
  refine G.assignS rfl trivial rfl rfl rfl ?_
  refine G.nil ?_
  refine C.ret ?_
  -- end 
  exact ⟨rfl, _, Res.of (rs := [.tmp 2]) rfl rfl, rfl, rfl⟩
/-! ### Made -/
def zputs (at_ : Nat) : Nat → Dv → Dv
  | 0, d => d
  | k + 1, d => (zputs at_ k d).put (at_ + k) zero64
theorem zputs_live {d : Dv} (h : d.live) (at_ : Nat) : ∀ k, (zputs at_ k d).live
  | 0 => h
  | k + 1 => live_put (zputs_live h at_ k) _ _
theorem zputs_ok {d : Dv} (h : d.ok) (hl : d.live) (at_ : Nat) : ∀ k, (zputs at_ k d).ok
  | 0 => h
  | k + 1 => Dv.put_ok (zputs_ok h hl at_ k) (zputs_live hl at_ k).notDead (by simp [zero64])
theorem zputs_length (d : Dv) (at_ : Nat) : ∀ k, (zputs at_ k d).l.length = d.l.length
  | 0 => rfl
  | k + 1 => by
    show ((zputs at_ k d).l.modify _ _).length = _
    rw [List.length_modify, zputs_length d at_ k]
def mkD (d : Dv) (at_ : Nat) (b : List UInt8) : Dv := ((zputs at_ 2 d).put at_ (sectS 1 b)).flush
theorem mkD_live {d : Dv} (h : d.live) (at_ : Nat) (b : List UInt8) : (mkD d at_ b).live := live_put (zputs_live h at_ 2) at_ (sectS 1 b)
theorem swr_live {d : Dv} (h : d.live) (i : Nat) (x : List UInt8) : swr d i x = ((d.put i x).flush, 0) := by
  unfold swr
  rw [if_neg (by rw [h.notDead]; simp), if_neg (by rw [(live_put h i x).notDead]; simp)]
theorem make_ok (d : Dv) (hd : d.ok) (hl : d.live) (at_ : Nat) (hat : at_ + 1 < d.l.length) (a : Option Addr) (c : Nat) (b : List UInt8) (hb : b.length ≤ 40) (hr : ∀ S' : List Seg, Rd W0 (S' ++ (S ++ L0)) a (bytesV b)) :
    FnS Try.prog W0 20 #[ptr bd, .int .i64 (at_ : Int), .slice a b.length c] (S ++ (devSeg bd bl d :: L0))
      (fun e L' => ∃ bs sg, SpIs bs bd { at_ := at_, slot := 0, turn := 1, text := b } sg ∧ L' = sg :: devSeg bd bl (mkD d at_ b) :: (S ++ L0) ∧ e = .returned (.tuple #[ptr bs, .int .i64 0])) := by
  have hlen := hd.2.1
  have hd2 := zputs_ok hd hl at_ 2
  have hl2 := zputs_live hl at_ 2
  have hn2 := zputs_length d at_ 2
  refine FnS.of (args := [ptr bd, .int .i64 (at_ : Int), .slice a b.length c]) Try.func20 rfl rfl ?_
  refine C.seq ?_
  refine C.region ?_
  refine G.assignP rfl trivial rfl rfl rfl ?_
  refine G.assignI rfl trivial rfl rfl rfl ?_
  refine G.nil ?_
  refine C.seq ?_
  refine C.block ?_
  refine C.seq ?_
  refine C.region ?_
  refine G.moveS rfl trivial rfl rfl rfl ?_
  refine G.lenSlice rfl trivial rfl rfl Try.underlying34 rfl ?_
  refine G.bin rfl trivial rfl rfl rfl rfl rfl ?_
  refine G.assignB rfl trivial rfl rfl rfl ?_
  refine G.nil ?_
  refine C.no rfl (by omega) ?_
  refine C.seq ?_
  refine C.region ?_
  refine G.moveP rfl trivial rfl rfl rfl ?_
  refine G.moveI rfl trivial rfl rfl rfl ?_
  refine G.call E33 rfl rfl trivial rfl rfl (there_spec W0 S L0 bd bl d hd at_) rfl ?_
  rintro e L2 ⟨rfl, rfl⟩
  rw [show decide (0 ≤ (at_ : Int) ∧ (at_ : Int) < (d.l.length : Int) - 1) = true from decide_eq_true (by omega)]
  first | refine G.notD rfl trivial rfl rfl rfl ?_ | refine G.not rfl trivial rfl rfl rfl ?_
  refine G.fix (d := 20) (v := .bool false) rfl ?_
  refine G.assignB rfl trivial rfl rfl rfl ?_
  refine G.nil ?_
  refine C.condF rfl ?_
  refine C.skip ?_
  refine C.seq ?_
  refine C.seq ?_
  refine C.region ?_
  refine G.moveI rfl trivial rfl rfl rfl ?_
  refine G.nil ?_
  refine C.block ?_
  refine C.loop (fun m F D' L' => ∃ k : Nat, k ≤ 2 ∧ m = 2 - k ∧ F 21 = .int .i64 k ∧ F 0 = ptr bd ∧ F 1 = .int .i64 (at_ : Int) ∧ F 2 = .slice a b.length c ∧ D' = [] ∧ S ++ (devSeg bd bl (zputs at_ k d) :: L0) = L') ⟨_, ⟨0, by omega, rfl, rfl, rfl, rfl, rfl, rfl, rfl⟩⟩ ?_
  rintro m F D' L' ⟨k, hk, rfl, h21, h0', h1', h2', rfl, rfl⟩
  refine C.fix (d := 21) h21 ?_
  refine C.fix (d := 0) h0' ?_
  refine C.fix (d := 1) h1' ?_
  refine C.fix (d := 2) h2' ?_
  refine C.seq ?_
  refine C.region ?_
  refine G.bin rfl trivial rfl rfl rfl rfl rfl ?_
  refine G.nil ?_
  refine C.seq ?_
  refine C.cond _ rfl ?_ ?_
  · intro hc2
    have hlt : k < 2 := by omega
    have hnk := zputs_length d at_ k
    refine C.skip ?_
    refine C.seq ?_
    refine C.block ?_
    refine C.seq ?_
    refine C.region ?_
    refine G.moveI rfl trivial rfl rfl rfl ?_
    refine G.assignI rfl trivial rfl rfl rfl ?_
    refine G.nil ?_
    refine C.seq ?_
    refine C.region ?_
    refine G.moveP rfl trivial rfl rfl rfl ?_
    refine G.moveI rfl trivial rfl rfl rfl ?_
    refine G.moveI rfl trivial rfl rfl rfl ?_
    refine G.add rfl trivial rfl rfl rfl rfl (by omega) ?_
    refine G.fix (d := 27) (v := .int .i64 ((at_ + k : Nat) : Int)) (by show Value.int .i64 _ = _; congr 1) ?_
    refine G.makeBytes (l := 64) (c := 64) rfl trivial rfl rfl Try.underlying34 I5 rfl rfl (by decide) ?_
    intro b28
    refine G.call E34 rfl rfl trivial rfl rfl (write_at W0 ([_] ++ S) _ bd bl (zputs at_ k d) (zputs_ok hd hl at_ k) (zputs_live hl at_ k).notDead (at_ + k) (by omega) _ 64 64 zero64 rfl (by decide) (Rd.row0 (cs := bytesV zero64) .here)) rfl ?_
    rintro e L2 ⟨rfl, rfl⟩
    refine G.assignI rfl trivial rfl rfl rfl ?_
    refine G.less (fun _ h => h.tail) ?_
    refine G.nil ?_
    refine C.seq ?_
    refine C.region ?_
    refine G.moveI rfl trivial rfl rfl rfl ?_
    refine G.bin rfl trivial rfl rfl rfl rfl rfl ?_
    refine G.nil ?_
    refine C.no rfl (by simp) ?_
    refine C.skip ?_
    refine C.region ?_
    refine G.add rfl trivial rfl rfl rfl rfl (by omega) ?_
    refine G.moveI rfl trivial rfl rfl rfl ?_
    refine G.nil ?_
    exact ⟨2 - (k + 1), by omega, k + 1, by omega, rfl, rfl, rfl, rfl, rfl, rfl, rfl⟩
  · intro hc2
    obtain rfl : k = 2 := by omega
    refine C.exit ?_
    refine C.seq ?_
    refine C.region ?_
    refine G.moveP rfl trivial rfl rfl rfl ?_
    refine G.moveI rfl trivial rfl rfl rfl ?_
    refine G.buildL rfl trivial rfl rfl Try.underlying83 I83 B83 rfl rfl ?_
    refine G.boxG rfl trivial rfl rfl rfl ?_
    intro bs
    refine G.assignP rfl trivial rfl rfl rfl ?_
    have hsg0 : SpIs bs bd { at_ := at_, slot := 0, turn := 0, text := [] } [(bs, .row (spRow bd { at_ := at_, slot := 0, turn := 0, text := [] } (.slice none 0 0)) 83 5)] := ⟨_, _, OwnS.nil _ _, rfl⟩
    refine G.less (L' := [(bs, .row (spRow bd { at_ := at_, slot := 0, turn := 0, text := [] } (.slice none 0 0)) 83 5)] :: devSeg bd bl (zputs at_ 2 d) :: (S ++ L0)) (fun _ h => h.perm ((List.perm_middle (l₁ := S)).cons _)) ?_
    refine G.nil ?_
    refine C.seq ?_
    refine C.seq ?_
    refine C.region ?_
    refine G.moveP rfl trivial rfl rfl rfl ?_
    refine G.moveS rfl trivial rfl rfl rfl ?_
    refine G.call E35 rfl rfl trivial rfl rfl (swrite_spec W0 (S ++ L0) bs bd bl (zputs at_ 2 d) hd2 { at_ := at_, slot := 0, turn := 0, text := [] } _ hsg0 0 1 (by show at_ + 0 < _; omega) (by decide) a c b hb hr) rfl ?_
    rintro e L2 ⟨sg1, rfl, hsg1, rfl⟩
    rw [swr_live hl2] at hsg1 ⊢
    rw [if_pos rfl] at hsg1
    refine G.assignI rfl trivial rfl rfl rfl ?_
    refine G.nil ?_
    refine C.seq ?_
    refine C.region ?_
    refine G.moveI rfl trivial rfl rfl rfl ?_
    refine G.bin rfl trivial rfl rfl rfl rfl rfl ?_
    refine G.nil ?_
    refine C.no rfl (by simp) ?_
    refine C.skip ?_
    refine C.seq ?_
    refine C.region ?_
    refine G.moveP rfl trivial rfl rfl rfl ?_
    refine G.assignP rfl trivial rfl rfl rfl ?_
    refine G.assignI rfl trivial rfl rfl rfl ?_
    refine G.nil ?_
    refine C.ret ?_
    -- end c2F
    exact ⟨rfl, _, Res.of (rs := [.tmp 6, .tmp 7]) rfl rfl, bs, sg1, hsg1, rfl, rfl⟩
theorem make_range (d : Dv) (hd : d.ok) (at_ : Int) (hat : ¬ (0 ≤ at_ ∧ at_ < (d.l.length : Int) - 1)) (a : Option Addr) (m c : Nat) (hm : m ≤ 40) :
    FnS Try.prog W0 20 #[ptr bd, .int .i64 at_, .slice a m c] (S ++ (devSeg bd bl d :: L0))
      (fun e L' => L' = S ++ (devSeg bd bl d :: L0) ∧ e = .returned (.tuple #[.pointer none, .int .i64 3])) := by
  refine FnS.of (args := [ptr bd, .int .i64 at_, .slice a m c]) Try.func20 rfl rfl ?_
  refine C.seq ?_
  refine C.region ?_
  refine G.assignP rfl trivial rfl rfl rfl ?_
  refine G.assignI rfl trivial rfl rfl rfl ?_
  refine G.nil ?_
  refine C.seq ?_
  refine C.block ?_
  refine C.seq ?_
  refine C.region ?_
  refine G.moveS rfl trivial rfl rfl rfl ?_
  refine G.lenSlice rfl trivial rfl rfl Try.underlying34 rfl ?_
  refine G.bin rfl trivial rfl rfl rfl rfl rfl ?_
  refine G.assignB rfl trivial rfl rfl rfl ?_
  refine G.nil ?_
  refine C.no rfl (by omega) ?_
  refine C.seq ?_
  refine C.region ?_
  refine G.moveP rfl trivial rfl rfl rfl ?_
  refine G.moveI rfl trivial rfl rfl rfl ?_
  refine G.call E33 rfl rfl trivial rfl rfl (there_spec W0 S L0 bd bl d hd at_) rfl ?_
  rintro e L2 ⟨rfl, rfl⟩
  rw [decide_eq_false hat]
  first | refine G.notD rfl trivial rfl rfl rfl ?_ | refine G.not rfl trivial rfl rfl rfl ?_
  refine G.fix (d := 20) (v := .bool true) rfl ?_
  refine G.assignB rfl trivial rfl rfl rfl ?_
  refine G.nil ?_
  refine C.condT rfl ?_
  refine C.seq ?_
  refine C.region ?_
  refine G.assignP rfl trivial rfl rfl rfl ?_
  refine G.assignI rfl trivial rfl rfl rfl ?_
  refine G.nil ?_
  refine C.ret ?_
  -- end 
  exact ⟨rfl, _, Res.of (rs := [.tmp 6, .tmp 7]) rfl rfl, rfl, rfl⟩
theorem make_form (L : List Seg) (v : Value) (at_ : Int) (a : Option Addr) (m c : Nat) (hm : 40 < m) :
    FnS Try.prog W0 20 #[v, .int .i64 at_, .slice a m c] L
      (fun e L' => L' = L ∧ e = .returned (.tuple #[.pointer none, .int .i64 1])) := by
  refine FnS.of (args := [v, .int .i64 at_, .slice a m c]) Try.func20 rfl rfl ?_
  refine C.seq ?_
  refine C.region ?_
  refine G.assignP rfl trivial rfl rfl rfl ?_
  refine G.assignI rfl trivial rfl rfl rfl ?_
  refine G.nil ?_
  refine C.seq ?_
  refine C.block ?_
  refine C.seq ?_
  refine C.region ?_
  refine G.moveS rfl trivial rfl rfl rfl ?_
  refine G.lenSlice rfl trivial rfl rfl Try.underlying34 rfl ?_
  refine G.bin rfl trivial rfl rfl rfl rfl rfl ?_
  refine G.assignB rfl trivial rfl rfl rfl ?_
  refine G.nil ?_
  refine C.yes rfl (by omega) ?_
  refine C.seq ?_
  refine C.region ?_
  refine G.assignP rfl trivial rfl rfl rfl ?_
  refine G.assignI rfl trivial rfl rfl rfl ?_
  refine G.nil ?_
  refine C.ret ?_
  -- end 
  exact ⟨rfl, _, Res.of (rs := [.tmp 6, .tmp 7]) rfl rfl, rfl, rfl⟩
/-! ### Opened -/
def turnI (x : List UInt8) : Int := IntKind.i64.wrap (secTurn x)
def validS (x : List UInt8) (t : Int) : Prop := sumF (x.drop 4) = secSum x ∧ t < turnI x ∧ secLen x ≤ 40
instance (x : List UInt8) (t : Int) : Decidable (validS x t) := inferInstanceAs (Decidable (_ ∧ _ ∧ _))
def opStep (p : Sp) (k : Nat) (x : List UInt8) : Sp := if validS x p.turn then { p with slot := k, turn := turnI x, text := secText x } else p
def opTo (at_ : Nat) (xs : Nat → List UInt8) : Nat → Sp
  | 0 => { at_ := at_, slot := 0, turn := 0, text := [] }
  | k + 1 => opStep (opTo at_ xs k) k (xs k)
theorem opTo_at (at_ : Nat) (xs : Nat → List UInt8) : ∀ k, (opTo at_ xs k).at_ = at_
  | 0 => rfl
  | k + 1 => by
    show (opStep _ _ _).at_ = _
    unfold opStep
    split
    · exact opTo_at at_ xs k
    · exact opTo_at at_ xs k
def nowAt (d : Dv) (i : Nat) : List UInt8 := match d.l[i]? with | some s => s.now | none => []
theorem nowAt_eq {d : Dv} {i : Nat} (h : i < d.l.length) : d.l[i].now = nowAt d i := by
  unfold nowAt
  rw [List.getElem?_eq_getElem h]
theorem open_spec (d : Dv) (hd : d.ok) (at_ : Nat) (hat : at_ + 1 < d.l.length) :
    FnS Try.prog W0 28 #[ptr bd, .int .i64 (at_ : Int)] (S ++ (devSeg bd bl d :: L0))
      (fun e L' => ((opTo at_ (fun k => nowAt d (at_ + k)) 2).turn = 0 ∧ L' = S ++ (devSeg bd bl d :: L0) ∧ e = .returned (.tuple #[.pointer none, .int .i64 8])) ∨
        ((opTo at_ (fun k => nowAt d (at_ + k)) 2).turn ≠ 0 ∧ ∃ bs sg, SpIs bs bd (opTo at_ (fun k => nowAt d (at_ + k)) 2) sg ∧ L' = sg :: (S ++ (devSeg bd bl d :: L0)) ∧ e = .returned (.tuple #[ptr bs, .int .i64 0]))) := by
  have hlen := hd.2.1
  refine FnS.of (args := [ptr bd, .int .i64 (at_ : Int)]) Try.func28 rfl rfl ?_
  refine C.seq ?_
  refine C.region ?_
  refine G.assignP rfl trivial rfl rfl rfl ?_
  refine G.assignI rfl trivial rfl rfl rfl ?_
  refine G.nil ?_
  refine C.seq ?_
  refine C.seq ?_
  refine C.region ?_
  refine G.moveP rfl trivial rfl rfl rfl ?_
  refine G.moveI rfl trivial rfl rfl rfl ?_
  refine G.call E33 rfl rfl trivial rfl rfl (there_spec W0 S L0 bd bl d hd at_) rfl ?_
  rintro e L2 ⟨rfl, rfl⟩
  rw [show decide (0 ≤ (at_ : Int) ∧ (at_ : Int) < (d.l.length : Int) - 1) = true from decide_eq_true (by omega)]
  first | refine G.notD rfl trivial rfl rfl rfl ?_ | refine G.not rfl trivial rfl rfl rfl ?_
  refine G.fix (d := 14) (v := .bool false) rfl ?_
  refine G.nil ?_
  refine C.condF rfl ?_
  refine C.skip ?_
  refine C.seq ?_
  refine C.region ?_
  refine G.moveP rfl trivial rfl rfl rfl ?_
  refine G.moveI rfl trivial rfl rfl rfl ?_
  refine G.buildL rfl trivial rfl rfl Try.underlying83 I83 B83 rfl rfl ?_
  refine G.boxG rfl trivial rfl rfl rfl ?_
  intro bs
  refine G.assignP rfl trivial rfl rfl rfl ?_
  refine G.nil ?_
  refine C.seq ?_
  refine C.seq ?_
  refine C.region ?_
  refine G.moveI rfl trivial rfl rfl rfl ?_
  refine G.nil ?_
  refine C.block ?_
  refine C.loop (fun m F D' L' => ∃ (k : Nat) (p : Sp) (sg : Seg), k ≤ 2 ∧ SpIs bs bd p sg ∧ p = opTo at_ (fun k => nowAt d (at_ + k)) k ∧ m = 2 - k ∧ F 19 = .int .i64 k ∧ F 6 = ptr bs ∧ F 0 = ptr bd ∧ F 1 = .int .i64 (at_ : Int) ∧ D' = [] ∧ sg :: (S ++ (devSeg bd bl d :: L0)) = L') ⟨_, ⟨0, _, _, by omega, ⟨_, _, OwnS.nil _ _, rfl⟩, rfl, rfl, rfl, rfl, rfl, rfl, rfl, rfl⟩⟩ ?_
  rintro m F D' L' ⟨k, p, sg, hk, hsg, hp, rfl, h19, h6, h0', h1', rfl, rfl⟩
  refine C.fix (d := 19) h19 ?_
  refine C.fix (d := 6) h6 ?_
  refine C.fix (d := 0) h0' ?_
  refine C.fix (d := 1) h1' ?_
  refine C.seq ?_
  refine C.region ?_
  refine G.bin rfl trivial rfl rfl rfl rfl rfl ?_
  refine G.nil ?_
  refine C.seq ?_
  refine C.cond _ rfl ?_ ?_
  · intro hc1
    have hlt : k < 2 := by omega
    obtain ⟨v0, ts, hv0, rfl⟩ := hsg
    have hpa : p.at_ = at_ := by rw [hp]; exact opTo_at _ _ _
    refine C.skip ?_
    refine C.seq ?_
    refine C.block ?_
    refine C.seq ?_
    refine C.region ?_
    refine G.moveI rfl trivial rfl rfl rfl ?_
    refine G.assignI rfl trivial rfl rfl rfl ?_
    refine G.nil ?_
    refine C.seq ?_
    refine C.region ?_
    refine G.moveP rfl trivial rfl rfl rfl ?_
    refine G.moveI rfl trivial rfl rfl rfl ?_
    refine G.moveI rfl trivial rfl rfl rfl ?_
    refine G.add rfl trivial rfl rfl rfl rfl (by omega) ?_
    refine G.fix (d := 26) (v := .int .i64 ((at_ + k : Nat) : Int)) (by show Value.int .i64 _ = _; congr 1) ?_
    refine G.call E37 rfl rfl trivial rfl rfl (read_ok W0 ([_] ++ S) _ bd bl d hd (at_ + k) (by omega)) rfl ?_
    rintro e L2 ⟨v, sx, hvx, rfl, rfl⟩
    rw [nowAt_eq] at hvx
    have hx64 : (nowAt d (at_ + k)).length = 64 := by rw [← nowAt_eq (by omega)]; exact (hd.1 _ (List.getElem_mem _)).1
    generalize hX : nowAt d (at_ + k) = x at *
    obtain ⟨bx, cx, kx, rfl, rfl, hkx1, hkx2⟩ := hvx.block (by decide)
    have hrow : ∀ L', Rd W0 ([(bx, .row (bytesV x) 5 kx)] :: L') (some ⟨bx, 0, none⟩) (bytesV x) := fun _ => Rd.row0 .here
    have hr4 : ∀ L', Rd W0 ([(bx, .row (bytesV x) 5 kx)] :: L') (cutA (some ⟨bx, 0, none⟩) cx 4 1) (bytesV (x.drop 4)) := fun L' => by have h := (hrow L').cut (n := 64) (cap := cx) (l := 4) (sz := 1) (by simp [hx64]) hkx2; simp only [bytesV_drop, Nat.mul_one] at h; exact h
    have hr13 : ∀ L', Rd W0 ([(bx, .row (bytesV x) 5 kx)] :: L') (cutA (some ⟨bx, 0, none⟩) cx 13 1) (bytesV (x.drop 13)) := fun L' => by have h := (hrow L').cut (n := 64) (cap := cx) (l := 13) (sz := 1) (by simp [hx64]) hkx2; simp only [bytesV_drop, Nat.mul_one] at h; exact h
    obtain ⟨c, hc⟩ : ∃ c, secLen x = c := ⟨_, rfl⟩
    have hx12 : (bytesV x)[12]? = some (.int .u8 (c : Int)) := by
      rw [bytesV_at (by omega)]
      rw [← hc, secLen, List.getElem?_eq_getElem (by omega)]
      rfl
    refine G.moveU rfl trivial rfl rfl rfl ?_
    refine G.extractL rfl trivial rfl rfl rfl rfl ?_
    refine G.extractL rfl trivial rfl rfl rfl rfl ?_
    refine G.assignS rfl trivial rfl rfl rfl ?_
    refine G.assignI rfl trivial rfl rfl rfl ?_
    refine G.nil ?_
    refine C.seq ?_
    refine C.seq ?_
    refine C.region ?_
    refine G.moveI rfl trivial rfl rfl rfl ?_
    refine G.bin rfl trivial rfl rfl rfl rfl rfl ?_
    refine G.nil ?_
    refine C.no rfl (by simp) ?_
    refine C.skip ?_
    refine C.seq ?_
    refine C.region ?_
    refine G.moveS rfl trivial rfl rfl rfl ?_
    refine G.sliceLH rfl trivial rfl rfl Try.underlying34 I5 rfl rfl rfl (by omega) ?_
    refine G.call E41 rfl rfl trivial rfl rfl (sget_spec W0 _ _ _ ((x.drop 4).take 8) (by simp [hx64]) (by simp; omega) (by rw [← bytesV_take]; exact (hr4 _).take)) rfl ?_
    rintro e L2 ⟨rfl, rfl⟩
    refine G.convInt rfl trivial rfl rfl Try.underlying90 Try.underlying2 rfl ?_
    refine G.fix (d := 36) (v := .int .i64 (turnI x)) rfl ?_
    refine G.assignI rfl trivial rfl rfl rfl ?_
    refine G.nil ?_
    refine C.seq ?_
    refine C.drawn mixed (_) [] (fun _ h => h) ?_
    refine GA.pure (i := 0) (fun _ _ _ _ _ h => h) rfl (by kernel_rfl) trivial rfl rfl (Y.moveS rfl rfl) (#[true, false, false, false, false, false, false, false, false, false, false, false, false, false, false, false, false, false, false, false, false, false]) (by kernel_rfl) ?_
    refine GA.pure (i := 1) (fun _ _ _ _ _ h => h) rfl (by kernel_rfl) trivial rfl rfl (Y.sliceL rfl Try.underlying34 I5 rfl rfl (by omega)) (#[true, true, false, false, false, false, false, false, false, false, false, false, false, false, false, false, false, false, false, false, false, false]) (by kernel_rfl) ?_
    refine GA.pure (i := 4) (fun _ _ _ _ _ h => h) rfl (by kernel_rfl) trivial rfl rfl (Y.moveS rfl rfl) (#[true, true, false, false, true, false, false, false, false, false, false, false, false, false, false, false, false, false, false, false, false, false]) (by kernel_rfl) ?_
    refine GA.pure (i := 5) (fun _ _ _ _ _ h => h) rfl (by kernel_rfl) trivial rfl rfl (Y.sliceH rfl Try.underlying34 I5 rfl rfl (by omega)) (#[true, true, false, false, true, true, false, false, false, false, false, false, false, false, false, false, false, false, false, false, false, false]) (by kernel_rfl) ?_
    refine GA.one (i := 2) rfl (by kernel_rfl) (#[true, true, true, false, true, true, false, false, false, false, false, false, false, false, false, false, false, false, false, false, false, false]) (by kernel_rfl) ?_
    refine G.call E42 rfl rfl trivial rfl rfl (sum_spec W0 _ _ _ (x.drop 4) (by simp [hx64]) (by simp; omega) (hr4 _)) rfl ?_
    rintro e L2 ⟨rfl, rfl⟩
    refine G.nil ?_
    refine ⟨fun _ _ h => h, ?_⟩
    refine GA.pure (i := 3) (fun _ _ _ _ _ h => h) rfl (by kernel_rfl) trivial rfl rfl (Y.convInt rfl Try.underlying92 Try.underlying90 rfl) (#[true, true, true, true, true, true, false, false, false, false, false, false, false, false, false, false, false, false, false, false, false, false]) (by kernel_rfl) ?_
    refine GA.fix (d := 40) (v := .int .u64 (sumF (x.drop 4) : Nat)) (by show Value.int .u64 _ = _; rw [u64_of _ (by have := (moreS 0#32 (x.drop 4)).isLt; omega)]; rfl) ?_
    refine GA.one (i := 6) rfl (by kernel_rfl) (#[true, true, true, true, true, true, true, false, false, false, false, false, false, false, false, false, false, false, false, false, false, false]) (by kernel_rfl) ?_
    refine G.call E41 rfl rfl trivial rfl rfl (sget_spec W0 _ _ _ (x.take 4) (by simp [hx64]) (by simp; omega) (by rw [← bytesV_take]; exact (hrow _).take)) rfl ?_
    rintro e L2 ⟨rfl, rfl⟩
    refine G.nil ?_
    refine ⟨fun _ _ h => h, ?_⟩
    refine GA.pure (i := 7) (fun _ _ _ _ _ h => h) rfl (by kernel_rfl) trivial rfl rfl (Y.bin rfl rfl rfl rfl) (#[true, true, true, true, true, true, true, true, false, false, false, false, false, false, false, false, false, false, false, false, false, false]) (by kernel_rfl) ?_
    refine GA.pure (i := 8) (fun _ _ _ _ _ h => h) rfl (by kernel_rfl) trivial rfl rfl (Y.moveB rfl rfl) (#[true, true, true, true, true, true, true, true, true, false, false, false, false, false, false, false, false, false, false, false, false, false]) (by kernel_rfl) ?_
    refine GA.fork (t := 45) _ rfl ?_ ?_
    · intro hg45
      refine GA.pure (i := 9) (fun _ _ _ _ _ h => h) rfl (by kernel_rfl) ⟨_, rfl, rfl, rfl⟩ rfl rfl (Y.moveI rfl rfl) (#[true, true, true, true, true, true, true, true, true, true, false, false, false, false, false, false, false, false, false, false, false, false]) (by kernel_rfl) ?_
      refine GA.pure (i := 10) (fun _ _ _ _ _ h => h) rfl (by kernel_rfl) ⟨_, rfl, rfl, rfl⟩ rfl rfl (Y.moveP rfl rfl) (#[true, true, true, true, true, true, true, true, true, true, true, false, false, false, false, false, false, false, false, false, false, false]) (by kernel_rfl) ?_
      first | refine GA.pure (i := 11) (fun _ _ _ _ _ h => h) rfl (by kernel_rfl) ⟨_, rfl, rfl, rfl⟩ rfl rfl (Y.nilCheckP rfl rfl) (#[true, true, true, true, true, true, true, true, true, true, true, true, false, false, false, false, false, false, false, false, false, false]) (by kernel_rfl) ?_ | refine GA.pure (i := 11) (fun _ _ _ _ _ h => h) rfl (by kernel_rfl) ⟨_, rfl, rfl, rfl⟩ rfl rfl (Y.nilCheckF rfl rfl) (#[true, true, true, true, true, true, true, true, true, true, true, true, false, false, false, false, false, false, false, false, false, false]) (by kernel_rfl) ?_
      refine GA.pure (i := 12) (fun _ _ _ _ _ h => h) rfl (by kernel_rfl) ⟨_, rfl, rfl, rfl⟩ rfl rfl (Y.fieldAddr rfl Try.underlying83 rfl I2 rfl rfl) (#[true, true, true, true, true, true, true, true, true, true, true, true, true, false, false, false, false, false, false, false, false, false]) (by kernel_rfl) ?_
      refine GA.read (i := 13) (fun _ _ _ _ _ h => h) rfl (by kernel_rfl) (by kernel_rfl) ⟨_, rfl, rfl, rfl⟩ rfl rfl (Y.loadAt (by first | exact .here | exact .next .here | exact .next (.next .here) | exact .next (.next (.next .here)) | exact .next (.next (.next (.next .here))) | exact .next (.next (.next (.next (.next .here)))) | exact .next (.next (.next (.next (.next (.next .here))))) | exact .next (.next (.next (.next (.next (.next (.next .here)))))) | exact .in1 | exact .next .in1 | exact .next (.next .in1) | exact .next (.next (.next .in1)) | exact .next (.next (.next (.next .in1))) | exact .in2 | exact .next .in2 | exact .next (.next .in2) | exact .next (.next (.next .in2)) | exact .next (.next (.next (.next .in2))) | exact .app .here | exact .app (.next .here) | exact .app (.next (.next .here)) | exact .app (.next (.next (.next .here))) | exact .app (.next (.next (.next (.next .here)))) | exact .app (.next (.next (.next (.next (.next .here))))) | exact .app (.next (.next (.next (.next (.next (.next .here)))))) | exact .app (.next (.next (.next (.next (.next (.next (.next .here))))))) | exact .app .in1 | exact .app .in2 | exact .app (.next .in1) | exact .next (.app .in1) | exact .next (.next (.app .in1)) | exact .next (.app .here) | exact .next (.next (.app .here)) | exact .next (.next (.next (.app .here))) | exact .next (.next (.next (.next (.app .here))))) rfl Try.underlying2 rfl rfl (by rfl)) (#[true, true, true, true, true, true, true, true, true, true, true, true, true, true, false, false, false, false, false, false, false, false]) (by kernel_rfl) ?_
      refine GA.pure (i := 14) (fun _ _ _ _ _ h => h) rfl (by kernel_rfl) ⟨_, rfl, rfl, rfl⟩ rfl rfl (Y.bin rfl rfl rfl rfl) (#[true, true, true, true, true, true, true, true, true, true, true, true, true, true, true, false, false, false, false, false, false, false]) (by kernel_rfl) ?_
      first | refine GA.pure (i := 15) (fun _ _ _ _ _ h => h) rfl (by kernel_rfl) trivial rfl rfl (Y.pickT rfl rfl rfl) (#[true, true, true, true, true, true, true, true, true, true, true, true, true, true, true, true, false, false, false, false, false, false]) (by kernel_rfl) ?_ | refine GA.pure (i := 15) (fun _ _ _ _ _ h => h) rfl (by kernel_rfl) trivial rfl rfl (Y.pickF rfl rfl rfl) (#[true, true, true, true, true, true, true, true, true, true, true, true, true, true, true, true, false, false, false, false, false, false]) (by kernel_rfl) ?_
      refine GA.pure (i := 16) (fun _ _ _ _ _ h => h) rfl (by kernel_rfl) trivial rfl rfl (Y.moveB rfl rfl) (#[true, true, true, true, true, true, true, true, true, true, true, true, true, true, true, true, true, false, false, false, false, false]) (by kernel_rfl) ?_
      refine GA.fork (t := 53) _ rfl ?_ ?_
      · intro hg53
        refine GA.pure (i := 17) (fun _ _ _ _ _ h => h) rfl (by kernel_rfl) ⟨_, rfl, rfl, rfl⟩ rfl rfl (Y.moveS rfl rfl) (#[true, true, true, true, true, true, true, true, true, true, true, true, true, true, true, true, true, true, false, false, false, false]) (by kernel_rfl) ?_
        refine GA.pure (i := 18) (fun _ _ _ _ _ h => h) rfl (by kernel_rfl) ⟨_, rfl, rfl, rfl⟩ rfl rfl (Y.indexAddr rfl Try.underlying34 I5 rfl rfl (by omega)) (#[true, true, true, true, true, true, true, true, true, true, true, true, true, true, true, true, true, true, true, false, false, false]) (by kernel_rfl) ?_
        refine GA.read (i := 19) (fun _ _ _ _ _ h => h) rfl (by kernel_rfl) (by kernel_rfl) ⟨_, rfl, rfl, rfl⟩ rfl rfl (Y.loadAt (v := .int .u8 (c : Int)) .here rfl Try.underlying5 rfl rfl hx12) (#[true, true, true, true, true, true, true, true, true, true, true, true, true, true, true, true, true, true, true, true, false, false]) (by kernel_rfl) ?_
        refine GA.pure (i := 20) (fun _ _ _ _ _ h => h) rfl (by kernel_rfl) ⟨_, rfl, rfl, rfl⟩ rfl rfl (Y.bin rfl rfl rfl rfl) (#[true, true, true, true, true, true, true, true, true, true, true, true, true, true, true, true, true, true, true, true, true, false]) (by kernel_rfl) ?_
        first | refine GA.pure (i := 21) (fun _ _ _ _ _ h => h) rfl (by kernel_rfl) trivial rfl rfl (Y.pickT rfl rfl rfl) (#[true, true, true, true, true, true, true, true, true, true, true, true, true, true, true, true, true, true, true, true, true, true]) (by kernel_rfl) ?_ | refine GA.pure (i := 21) (fun _ _ _ _ _ h => h) rfl (by kernel_rfl) trivial rfl rfl (Y.pickF rfl rfl rfl) (#[true, true, true, true, true, true, true, true, true, true, true, true, true, true, true, true, true, true, true, true, true, true]) (by kernel_rfl) ?_
        refine GA.done (by kernel_rfl) ?_
        refine C.cond _ rfl ?_ ?_
        · intro hc3
          have hval : validS x p.turn := ⟨by have h := hg45; unfold secSum; omega, hg53, by omega⟩
          refine C.region ?_
          refine G.moveP rfl trivial rfl rfl rfl ?_
          refine G.moveP rfl trivial rfl rfl rfl ?_
          refine G.moveP rfl trivial rfl rfl rfl ?_
          refine G.moveI rfl trivial rfl rfl rfl ?_
          refine G.moveI rfl trivial rfl rfl rfl ?_
          refine G.moveS rfl trivial rfl rfl rfl ?_
          refine G.moveS rfl trivial rfl rfl rfl ?_
          refine G.indexAddr rfl trivial rfl rfl Try.underlying34 I5 rfl rfl (by omega) ?_
          refine G.loadAt (v := .int .u8 (c : Int)) .here rfl trivial rfl rfl Try.underlying5 rfl rfl hx12 ?_
          refine G.bin rfl trivial rfl rfl rfl rfl rfl ?_
          refine G.fix (d := 68) (v := .int .u8 ((13 + c : Nat) : Int)) (by show Value.int .u8 _ = _; rw [show (13 : Int) + (c : Int) = ((13 + c : Nat) : Int) by omega]; congr 1; exact wrap_in .u8 (by simp [IntKind.min, IntKind.max, IntKind.bits, IntKind.signed]; omega)) ?_
          refine G.sliceLH rfl trivial rfl rfl Try.underlying34 I5 rfl rfl rfl (by omega) ?_
          refine G.call E43 rfl rfl trivial rfl rfl (clone_any W0 _ _ _ _ (secText x) (by unfold secText; rw [hc]; simp [hx64]; omega) (by unfold secText; simp; omega) (by unfold secText; rw [hc, ← bytesV_take]; exact (hr13 _).take)) rfl ?_
          rintro e L2 ⟨v70, s70, hv70, rfl, rfl⟩
          obtain ⟨a70, c70, rfl, _⟩ := hv70.form
          first | refine G.nilCheckP rfl trivial rfl rfl rfl ?_ | refine G.nilCheckF rfl trivial rfl rfl rfl ?_
          refine G.fieldAddr rfl trivial rfl rfl Try.underlying83 rfl I3 rfl rfl ?_
          refine G.store (v := .int _ _) (by first | exact .here | exact .next .here | exact .next (.next .here) | exact .next (.next (.next .here)) | exact .next (.next (.next (.next .here))) | exact .next (.next (.next (.next (.next .here)))) | exact .next (.next (.next (.next (.next (.next .here))))) | exact .next (.next (.next (.next (.next (.next (.next .here)))))) | exact .in1 | exact .next .in1 | exact .next (.next .in1) | exact .next (.next (.next .in1)) | exact .next (.next (.next (.next .in1))) | exact .in2 | exact .next .in2 | exact .next (.next .in2) | exact .next (.next (.next .in2)) | exact .next (.next (.next (.next .in2))) | exact .app .here | exact .app (.next .here) | exact .app (.next (.next .here)) | exact .app (.next (.next (.next .here))) | exact .app (.next (.next (.next (.next .here)))) | exact .app (.next (.next (.next (.next (.next .here))))) | exact .app (.next (.next (.next (.next (.next (.next .here)))))) | exact .app (.next (.next (.next (.next (.next (.next (.next .here))))))) | exact .app .in1 | exact .app .in2 | exact .app (.next .in1) | exact .next (.app .in1) | exact .next (.next (.app .in1)) | exact .next (.app .here) | exact .next (.next (.app .here)) | exact .next (.next (.next (.app .here))) | exact .next (.next (.next (.next (.app .here))))) rfl trivial rfl I3 rfl rfl rfl (by first | decide | (simp; done) | (simp; omega)) _ (by first | (simp only [List.set_cons_succ, List.set_cons_zero]; done) | (simp only [List.set_cons_succ, List.set_cons_zero]; exact rfl) | exact rfl) ?_
          first | refine G.nilCheckP rfl trivial rfl rfl rfl ?_ | refine G.nilCheckF rfl trivial rfl rfl rfl ?_
          refine G.fieldAddr rfl trivial rfl rfl Try.underlying83 rfl I2 rfl rfl ?_
          refine G.store (v := .int _ _) (by first | exact .here | exact .next .here | exact .next (.next .here) | exact .next (.next (.next .here)) | exact .next (.next (.next (.next .here))) | exact .next (.next (.next (.next (.next .here)))) | exact .next (.next (.next (.next (.next (.next .here))))) | exact .next (.next (.next (.next (.next (.next (.next .here)))))) | exact .in1 | exact .next .in1 | exact .next (.next .in1) | exact .next (.next (.next .in1)) | exact .next (.next (.next (.next .in1))) | exact .in2 | exact .next .in2 | exact .next (.next .in2) | exact .next (.next (.next .in2)) | exact .next (.next (.next (.next .in2))) | exact .app .here | exact .app (.next .here) | exact .app (.next (.next .here)) | exact .app (.next (.next (.next .here))) | exact .app (.next (.next (.next (.next .here)))) | exact .app (.next (.next (.next (.next (.next .here))))) | exact .app (.next (.next (.next (.next (.next (.next .here)))))) | exact .app (.next (.next (.next (.next (.next (.next (.next .here))))))) | exact .app .in1 | exact .app .in2 | exact .app (.next .in1) | exact .next (.app .in1) | exact .next (.next (.app .in1)) | exact .next (.app .here) | exact .next (.next (.app .here)) | exact .next (.next (.next (.app .here))) | exact .next (.next (.next (.next (.app .here))))) rfl trivial rfl I2 rfl rfl rfl (by first | decide | (simp; done) | (simp; omega)) _ (by first | (simp only [List.set_cons_succ, List.set_cons_zero]; done) | (simp only [List.set_cons_succ, List.set_cons_zero]; exact rfl) | exact rfl) ?_
          first | refine G.nilCheckP rfl trivial rfl rfl rfl ?_ | refine G.nilCheckF rfl trivial rfl rfl rfl ?_
          refine G.fieldAddr rfl trivial rfl rfl Try.underlying83 rfl I34 rfl rfl ?_
          refine G.store (v := .slice _ _ _) (by first | exact .here | exact .next .here | exact .next (.next .here) | exact .next (.next (.next .here)) | exact .next (.next (.next (.next .here))) | exact .next (.next (.next (.next (.next .here)))) | exact .next (.next (.next (.next (.next (.next .here))))) | exact .next (.next (.next (.next (.next (.next (.next .here)))))) | exact .in1 | exact .next .in1 | exact .next (.next .in1) | exact .next (.next (.next .in1)) | exact .next (.next (.next (.next .in1))) | exact .in2 | exact .next .in2 | exact .next (.next .in2) | exact .next (.next (.next .in2)) | exact .next (.next (.next (.next .in2))) | exact .app .here | exact .app (.next .here) | exact .app (.next (.next .here)) | exact .app (.next (.next (.next .here))) | exact .app (.next (.next (.next (.next .here)))) | exact .app (.next (.next (.next (.next (.next .here))))) | exact .app (.next (.next (.next (.next (.next (.next .here)))))) | exact .app (.next (.next (.next (.next (.next (.next (.next .here))))))) | exact .app .in1 | exact .app .in2 | exact .app (.next .in1) | exact .next (.app .in1) | exact .next (.next (.app .in1)) | exact .next (.app .here) | exact .next (.next (.app .here)) | exact .next (.next (.next (.app .here))) | exact .next (.next (.next (.next (.app .here))))) rfl trivial rfl I34 rfl rfl rfl (by first | decide | (simp; done) | (simp; omega)) _ (by first | (simp only [List.set_cons_succ, List.set_cons_zero]; done) | (simp only [List.set_cons_succ, List.set_cons_zero]; exact rfl) | exact rfl) ?_
          refine G.less (fun _ h => Mem.tailIn h.skip1) ?_
          refine G.nil ?_
          refine C.region ?_
          refine G.add rfl trivial rfl rfl rfl rfl (by omega) ?_
          refine G.moveI rfl trivial rfl rfl rfl ?_
          refine G.nil ?_
          have e70 : (secText x).length = ((13 + c : Nat) : Int).toNat - (13 : Int).toNat := by { unfold secText; rw [hc]; simp [hx64]; omega }
          have hown70 : OwnS (.slice a70 (((13 + c : Nat) : Int).toNat - (13 : Int).toNat) c70) (secText x).length (bytesV (secText x)) 5 1 s70 := by { rw [e70]; exact hv70 }
          exact ⟨2 - (k + 1), by omega, k + 1, { p with slot := k, turn := turnI x, text := secText x }, _, by omega, ⟨_, _, hown70, rfl⟩, by show _ = opStep _ _ _; rw [← hp]; simp only [hX]; rw [opStep, if_pos hval], rfl, rfl, rfl, rfl, rfl, rfl, rfl⟩
        · intro hc3
          refine C.skip ?_
          refine C.region ?_
          refine G.add rfl trivial rfl rfl rfl rfl (by omega) ?_
          refine G.moveI rfl trivial rfl rfl rfl ?_
          refine G.less (fun _ h => h.tail) ?_
          refine G.nil ?_
          exact ⟨2 - (k + 1), by omega, k + 1, p, _, by omega, ⟨_, _, hv0, rfl⟩, by show _ = opStep _ _ _; rw [← hp]; simp only [hX]; rw [opStep, if_neg (fun hv => hc3 (by have h := hv.2.2; omega))], rfl, rfl, rfl, rfl, rfl, rfl, rfl⟩
      · intro hg53
        refine GA.skip (i := 17) (fun _ _ _ _ _ h => h) rfl (by kernel_rfl) rfl rfl rfl rfl rfl rfl (#[true, true, true, true, true, true, true, true, true, true, true, true, true, true, true, true, true, true, false, false, false, false]) (by kernel_rfl) ?_
        refine GA.skip (i := 18) (fun _ _ _ _ _ h => h) rfl (by kernel_rfl) rfl rfl rfl rfl rfl rfl (#[true, true, true, true, true, true, true, true, true, true, true, true, true, true, true, true, true, true, true, false, false, false]) (by kernel_rfl) ?_
        refine GA.skip (i := 19) (fun _ _ _ _ _ h => h) rfl (by kernel_rfl) rfl rfl rfl rfl rfl rfl (#[true, true, true, true, true, true, true, true, true, true, true, true, true, true, true, true, true, true, true, true, false, false]) (by kernel_rfl) ?_
        refine GA.skip (i := 20) (fun _ _ _ _ _ h => h) rfl (by kernel_rfl) rfl rfl rfl rfl rfl rfl (#[true, true, true, true, true, true, true, true, true, true, true, true, true, true, true, true, true, true, true, true, true, false]) (by kernel_rfl) ?_
        first | refine GA.pure (i := 21) (fun _ _ _ _ _ h => h) rfl (by kernel_rfl) trivial rfl rfl (Y.pickT rfl rfl rfl) (#[true, true, true, true, true, true, true, true, true, true, true, true, true, true, true, true, true, true, true, true, true, true]) (by kernel_rfl) ?_ | refine GA.pure (i := 21) (fun _ _ _ _ _ h => h) rfl (by kernel_rfl) trivial rfl rfl (Y.pickF rfl rfl rfl) (#[true, true, true, true, true, true, true, true, true, true, true, true, true, true, true, true, true, true, true, true, true, true]) (by kernel_rfl) ?_
        refine GA.done (by kernel_rfl) ?_
        refine C.condF rfl ?_
        refine C.skip ?_
        refine C.region ?_
        refine G.add rfl trivial rfl rfl rfl rfl (by omega) ?_
        refine G.moveI rfl trivial rfl rfl rfl ?_
        refine G.less (fun _ h => h.tail) ?_
        refine G.nil ?_
        exact ⟨2 - (k + 1), by omega, k + 1, p, _, by omega, ⟨_, _, hv0, rfl⟩, by show _ = opStep _ _ _; rw [← hp]; simp only [hX]; rw [opStep, if_neg (fun hv => hg53 hv.2.1)], rfl, rfl, rfl, rfl, rfl, rfl, rfl⟩
    · intro hg45
      refine GA.skip (i := 9) (fun _ _ _ _ _ h => h) rfl (by kernel_rfl) rfl rfl rfl rfl rfl rfl (#[true, true, true, true, true, true, true, true, true, true, false, false, false, false, false, false, false, false, false, false, false, false]) (by kernel_rfl) ?_
      refine GA.skip (i := 10) (fun _ _ _ _ _ h => h) rfl (by kernel_rfl) rfl rfl rfl rfl rfl rfl (#[true, true, true, true, true, true, true, true, true, true, true, false, false, false, false, false, false, false, false, false, false, false]) (by kernel_rfl) ?_
      refine GA.skip (i := 11) (fun _ _ _ _ _ h => h) rfl (by kernel_rfl) rfl rfl rfl rfl rfl rfl (#[true, true, true, true, true, true, true, true, true, true, true, true, false, false, false, false, false, false, false, false, false, false]) (by kernel_rfl) ?_
      refine GA.skip (i := 12) (fun _ _ _ _ _ h => h) rfl (by kernel_rfl) rfl rfl rfl rfl rfl rfl (#[true, true, true, true, true, true, true, true, true, true, true, true, true, false, false, false, false, false, false, false, false, false]) (by kernel_rfl) ?_
      refine GA.skip (i := 13) (fun _ _ _ _ _ h => h) rfl (by kernel_rfl) rfl rfl rfl rfl rfl rfl (#[true, true, true, true, true, true, true, true, true, true, true, true, true, true, false, false, false, false, false, false, false, false]) (by kernel_rfl) ?_
      refine GA.skip (i := 14) (fun _ _ _ _ _ h => h) rfl (by kernel_rfl) rfl rfl rfl rfl rfl rfl (#[true, true, true, true, true, true, true, true, true, true, true, true, true, true, true, false, false, false, false, false, false, false]) (by kernel_rfl) ?_
      first | refine GA.pure (i := 15) (fun _ _ _ _ _ h => h) rfl (by kernel_rfl) trivial rfl rfl (Y.pickT rfl rfl rfl) (#[true, true, true, true, true, true, true, true, true, true, true, true, true, true, true, true, false, false, false, false, false, false]) (by kernel_rfl) ?_ | refine GA.pure (i := 15) (fun _ _ _ _ _ h => h) rfl (by kernel_rfl) trivial rfl rfl (Y.pickF rfl rfl rfl) (#[true, true, true, true, true, true, true, true, true, true, true, true, true, true, true, true, false, false, false, false, false, false]) (by kernel_rfl) ?_
      refine GA.pure (i := 16) (fun _ _ _ _ _ h => h) rfl (by kernel_rfl) trivial rfl rfl (Y.moveB rfl rfl) (#[true, true, true, true, true, true, true, true, true, true, true, true, true, true, true, true, true, false, false, false, false, false]) (by kernel_rfl) ?_
      refine GA.skip (i := 17) (fun _ _ _ _ _ h => h) rfl (by kernel_rfl) rfl rfl rfl rfl rfl rfl (#[true, true, true, true, true, true, true, true, true, true, true, true, true, true, true, true, true, true, false, false, false, false]) (by kernel_rfl) ?_
      refine GA.skip (i := 18) (fun _ _ _ _ _ h => h) rfl (by kernel_rfl) rfl rfl rfl rfl rfl rfl (#[true, true, true, true, true, true, true, true, true, true, true, true, true, true, true, true, true, true, true, false, false, false]) (by kernel_rfl) ?_
      refine GA.skip (i := 19) (fun _ _ _ _ _ h => h) rfl (by kernel_rfl) rfl rfl rfl rfl rfl rfl (#[true, true, true, true, true, true, true, true, true, true, true, true, true, true, true, true, true, true, true, true, false, false]) (by kernel_rfl) ?_
      refine GA.skip (i := 20) (fun _ _ _ _ _ h => h) rfl (by kernel_rfl) rfl rfl rfl rfl rfl rfl (#[true, true, true, true, true, true, true, true, true, true, true, true, true, true, true, true, true, true, true, true, true, false]) (by kernel_rfl) ?_
      first | refine GA.pure (i := 21) (fun _ _ _ _ _ h => h) rfl (by kernel_rfl) trivial rfl rfl (Y.pickT rfl rfl rfl) (#[true, true, true, true, true, true, true, true, true, true, true, true, true, true, true, true, true, true, true, true, true, true]) (by kernel_rfl) ?_ | refine GA.pure (i := 21) (fun _ _ _ _ _ h => h) rfl (by kernel_rfl) trivial rfl rfl (Y.pickF rfl rfl rfl) (#[true, true, true, true, true, true, true, true, true, true, true, true, true, true, true, true, true, true, true, true, true, true]) (by kernel_rfl) ?_
      refine GA.done (by kernel_rfl) ?_
      refine C.condF rfl ?_
      refine C.skip ?_
      refine C.region ?_
      refine G.add rfl trivial rfl rfl rfl rfl (by omega) ?_
      refine G.moveI rfl trivial rfl rfl rfl ?_
      refine G.less (fun _ h => h.tail) ?_
      refine G.nil ?_
      exact ⟨2 - (k + 1), by omega, k + 1, p, _, by omega, ⟨_, _, hv0, rfl⟩, by show _ = opStep _ _ _; rw [← hp]; simp only [hX]; rw [opStep, if_neg (fun hv => hg45 (by have h := hv.1; unfold secSum at h; omega))], rfl, rfl, rfl, rfl, rfl, rfl, rfl⟩
  · intro hc1
    obtain rfl : k = 2 := by omega
    have hsg0 := hsg
    obtain ⟨v0, ts, hv0, rfl⟩ := hsg
    refine C.exit ?_
    refine C.seq ?_
    refine C.seq ?_
    refine C.region ?_
    refine G.moveP rfl trivial rfl rfl rfl ?_
    first | refine G.nilCheckP rfl trivial rfl rfl rfl ?_ | refine G.nilCheckF rfl trivial rfl rfl rfl ?_
    refine G.fieldAddr rfl trivial rfl rfl Try.underlying83 rfl I2 rfl rfl ?_
    refine G.loadAt (by first | exact .here | exact .next .here | exact .next (.next .here) | exact .next (.next (.next .here)) | exact .next (.next (.next (.next .here))) | exact .next (.next (.next (.next (.next .here)))) | exact .next (.next (.next (.next (.next (.next .here))))) | exact .next (.next (.next (.next (.next (.next (.next .here)))))) | exact .in1 | exact .next .in1 | exact .next (.next .in1) | exact .next (.next (.next .in1)) | exact .next (.next (.next (.next .in1))) | exact .in2 | exact .next .in2 | exact .next (.next .in2) | exact .next (.next (.next .in2)) | exact .next (.next (.next (.next .in2))) | exact .app .here | exact .app (.next .here) | exact .app (.next (.next .here)) | exact .app (.next (.next (.next .here))) | exact .app (.next (.next (.next (.next .here)))) | exact .app (.next (.next (.next (.next (.next .here))))) | exact .app (.next (.next (.next (.next (.next (.next .here)))))) | exact .app (.next (.next (.next (.next (.next (.next (.next .here))))))) | exact .app .in1 | exact .app .in2 | exact .app (.next .in1) | exact .next (.app .in1) | exact .next (.next (.app .in1)) | exact .next (.app .here) | exact .next (.next (.app .here)) | exact .next (.next (.next (.app .here))) | exact .next (.next (.next (.next (.app .here))))) rfl trivial rfl rfl Try.underlying2 rfl rfl (by rfl) ?_
    refine G.bin rfl trivial rfl rfl rfl rfl rfl ?_
    refine G.nil ?_
    refine C.cond _ rfl ?_ ?_
    · intro hc4
      refine C.seq ?_
      refine C.region ?_
      refine G.assignP rfl trivial rfl rfl rfl ?_
      refine G.assignI rfl trivial rfl rfl rfl ?_
      refine G.nil ?_
      refine C.less (fun _ h => h.tail) ?_
      refine C.ret ?_
      -- end c1Fc4T
      exact ⟨rfl, _, Res.of (rs := [.tmp 4, .tmp 5]) rfl rfl, .inl ⟨by rw [← hp]; exact hc4, rfl, rfl⟩⟩
    · intro hc4
      refine C.skip ?_
      refine C.seq ?_
      refine C.region ?_
      refine G.moveP rfl trivial rfl rfl rfl ?_
      refine G.assignP rfl trivial rfl rfl rfl ?_
      refine G.assignI rfl trivial rfl rfl rfl ?_
      refine G.nil ?_
      refine C.ret ?_
      -- end c1Fc4F
      exact ⟨rfl, _, Res.of (rs := [.tmp 4, .tmp 5]) rfl rfl, .inr ⟨by rw [← hp]; exact hc4, bs, _, hp ▸ hsg0, rfl, rfl⟩⟩
theorem open_nil (L : List Seg) (at_ : Int) :
    FnS Try.prog W0 28 #[.pointer none, .int .i64 at_] L (fun e L' => L' = L ∧ e = .returned (.tuple #[.pointer none, .int .i64 3])) := by
  refine FnS.of (args := [.pointer none, .int .i64 at_]) Try.func28 rfl rfl ?_
  refine C.seq ?_
  refine C.region ?_
  refine G.assignP rfl trivial rfl rfl rfl ?_
  refine G.assignI rfl trivial rfl rfl rfl ?_
  refine G.nil ?_
  refine C.seq ?_
  refine C.seq ?_
  refine C.region ?_
  refine G.moveP rfl trivial rfl rfl rfl ?_
  refine G.moveI rfl trivial rfl rfl rfl ?_
  refine G.call E33 rfl rfl trivial rfl rfl (there_nil W0 _ at_) rfl ?_
  rintro e L2 ⟨rfl, rfl⟩
  first | refine G.notD rfl trivial rfl rfl rfl ?_ | refine G.not rfl trivial rfl rfl rfl ?_
  refine G.fix (d := 14) (v := .bool true) rfl ?_
  refine G.nil ?_
  refine C.condT rfl ?_
  refine C.seq ?_
  refine C.region ?_
  refine G.assignP rfl trivial rfl rfl rfl ?_
  refine G.assignI rfl trivial rfl rfl rfl ?_
  refine G.nil ?_
  refine C.ret ?_
  -- end 
  exact ⟨rfl, _, Res.of (rs := [.tmp 4, .tmp 5]) rfl rfl, rfl, rfl⟩
end sup
end Go.Proofs.Ytjfjmhmfhkdcbab
