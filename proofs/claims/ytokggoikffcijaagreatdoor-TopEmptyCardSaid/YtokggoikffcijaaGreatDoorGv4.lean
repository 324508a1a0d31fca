/-
  The log's ring read from the device, in blocks of any capacity; walked.
-/
import Derived.Test.YtokggoikffcijaaGreatDoorGv1
import Derived.Test.YtokggoikffcijaaGreatDoorK1
import Derived.Test.YtokggoikffcijaaGreatDoorBig
namespace Go.Proofs.YtokggoikffcijaaGreatDoor
open Go Go.SL Go.RowKit

def lrow (bd : Nat) (x1 : Value) (cs post : List Value) : List Value := ptr bd :: x1 :: (cs ++ post)
theorem lrow_length {bd : Nat} {x1 : Value} {cs post : List Value} (h : cs.length = 65536) : (lrow bd x1 cs post).length = 65538 + post.length := by simp [lrow, h]; omega
theorem lrow_splice {bd : Nat} {x1 : Value} {cs post : List Value} (h : cs.length = 65536) {vs : List Value} {i : Nat} (hv : vs.length = 64) (hi : i < 1024) :
    (lrow bd x1 cs post).take (2 + 64 * i) ++ vs ++ (lrow bd x1 cs post).drop (2 + 64 * i + vs.length) = lrow bd x1 (cs.take (64 * i) ++ vs ++ cs.drop (64 * i + 64)) post := by
  show (ptr bd :: x1 :: (cs ++ _)).take (2 + 64 * i) ++ vs ++ (ptr bd :: x1 :: (cs ++ _)).drop (2 + 64 * i + vs.length) = _
  rw [hv, show 2 + 64 * i = (64 * i) + 1 + 1 by omega, show 64 * i + 1 + 1 + 64 = (64 * i + 64) + 1 + 1 by omega, List.take_succ_cons, List.take_succ_cons, List.drop_succ_cons, List.drop_succ_cons, List.take_append_of_le_length (by omega), List.drop_append_of_le_length (by omega)]
  simp [lrow]
def ringU (d : Dv) (i : Nat) : List Value := ((d.l.drop 386).take i).flatMap (fun s => bytesV s.now)
theorem ringU_length {d : Dv} (hd : d.ok) (hn : d.l.length = 1410) {i : Nat} (hi : i ≤ 1024) : (ringU d i).length = 64 * i := by
  unfold ringU
  rw [chunk_length (k := 64) (fun s hs => by rw [bytesV_length]; exact (hd.1 s (List.mem_of_mem_drop (List.mem_of_mem_take hs))).1)]
  simp; omega
theorem ringU_succ {d : Dv} (hn : d.l.length = 1410) {i : Nat} (hi : i < 1024) : ringU d (i + 1) = ringU d i ++ bytesV (d.l[386 + i]'(by omega)).now := by
  unfold ringU
  rw [List.take_succ_eq_append_getElem (by simp; omega), List.flatMap_append]
  simp
section
variable (W0 : World) (S L0 : List Seg) (kd kl bg bd bl kg : Nat) (x1 : Value) (post : List Value)
theorem load_gen (d : Dv) (hd : d.ok) (hn : d.l.length = 1410) (cs : List Value) (hcs : cs.length = 65536) :
    FnS Tryz.prog W0 183 #[ptr bg] ([(bg, .row (lrow bd x1 cs post) 259 kg)] :: (S ++ (devSeg kd kl bd bl d :: L0))) (fun r L' => L' = [(bg, .row (lrow bd x1 (ringU d 1024) post) 259 kg)] :: (S ++ (devSeg kd kl bd bl d :: L0)) ∧ r = .returned (.int .i64 0)) := by
  refine FnS.of (args := [ptr bg]) Tryz.func183 rfl rfl ?_
  refine C.seq ?_
  refine C.region ?_
  refine G.assignI rfl trivial rfl rfl rfl ?_
  refine G.nil ?_
  refine C.seq ?_
  refine C.seq ?_
  refine C.region ?_
  refine G.moveI rfl trivial rfl rfl rfl ?_
  refine G.nil ?_
  refine C.block ?_
  refine C.loop (fun m F D' L' => ∃ i : Nat, i ≤ 1024 ∧ m = 1024 - i ∧ F 6 = .int .i64 (i : Int) ∧ F 0 = ptr bg ∧ D' = [] ∧ [(bg, .row (lrow bd x1 (ringU d i ++ cs.drop (64 * i)) post) 259 kg)] :: (S ++ (devSeg kd kl bd bl d :: L0)) = L') ⟨_, ⟨0, by omega, rfl, rfl, rfl, rfl, rfl⟩⟩ ?_
  rintro m F D' L' ⟨i, hi, rfl, h6, h0', rfl, rfl⟩
  refine C.fix (d := 6) h6 ?_
  refine C.fix (d := 0) h0' ?_
  refine C.seq ?_
  refine C.region ?_
  refine G.bin rfl trivial rfl rfl rfl rfl rfl ?_
  refine G.nil ?_
  refine C.seq ?_
  refine C.cond _ rfl ?_ ?_
  · intro hc0
    have hlt : i < 1024 := by omega
    have hul := ringU_length hd hn hi
    have hcl : (ringU d i ++ cs.drop (64 * i)).length = 65536 := by rw [List.length_append, hul, List.length_drop, hcs]; omega
    have hx64 : (d.l[386 + i]'(by omega)).now.length = 64 := (hd.1 _ (List.getElem_mem _)).1
    refine C.skip ?_
    refine C.seq ?_
    refine C.block ?_
    refine C.seq ?_
    refine C.region ?_
    refine G.moveI rfl trivial rfl rfl rfl ?_
    refine G.assignI rfl trivial rfl rfl rfl ?_
    refine G.nil ?_
    refine C.seq ?_
    refine C.region ?_
    refine G.moveP rfl trivial rfl rfl rfl ?_
    first | refine G.nilCheckP rfl trivial rfl rfl rfl ?_ | refine G.nilCheckF rfl trivial rfl rfl rfl ?_
    refine G.fieldAddr rfl trivial rfl rfl Tryz.underlying259 rfl I39 rfl rfl ?_
    refine G.loadAt (v := ptr bd) .here rfl trivial rfl rfl Tryz.underlying39 rfl rfl rfl ?_
    refine G.moveI rfl trivial rfl rfl rfl ?_
    refine G.add rfl trivial rfl rfl rfl rfl (by omega) ?_
    refine G.fix (d := 15) (v := .int .i64 ((386 + i : Nat) : Int)) (by show Value.int .i64 _ = _; congr 1) ?_
    refine G.call E209 rfl rfl trivial rfl rfl (read_ok W0 ([_] ++ S) _ kd kl bd bl d hd (386 + i) (by omega)) rfl ?_
    rintro e L2 ⟨v, sx, hvx, rfl, rfl⟩
    obtain ⟨bx, cx, kx, rfl, rfl, hkx1, hkx2⟩ := hvx.block (by decide)
    refine G.moveU rfl trivial rfl rfl rfl ?_
    refine G.extractL rfl trivial rfl rfl rfl rfl ?_
    refine G.extractL rfl trivial rfl rfl rfl rfl ?_
    refine G.assignS rfl trivial rfl rfl rfl ?_
    refine G.assignI rfl trivial rfl rfl rfl ?_
    refine G.nil ?_
    refine C.seq ?_
    refine C.seq ?_
    refine C.region ?_
    refine G.moveI rfl trivial rfl rfl rfl ?_
    refine G.bin rfl trivial rfl rfl rfl rfl rfl ?_
    refine G.nil ?_
    refine C.no rfl (by simp) ?_
    refine C.skip ?_
    refine C.region ?_
    refine G.moveP rfl trivial rfl rfl rfl ?_
    first | refine G.nilCheckP rfl trivial rfl rfl rfl ?_ | refine G.nilCheckF rfl trivial rfl rfl rfl ?_
    refine G.fieldAddr rfl trivial rfl rfl Tryz.underlying259 rfl I257 rfl rfl ?_
    refine G.moveI rfl trivial rfl rfl rfl ?_
    refine G.mul rfl trivial rfl rfl rfl rfl (by omega) ?_
    refine G.sliceArrL rfl trivial rfl rfl Tryz.underlying257 I5 rfl rfl (by omega) ?_
    refine G.fix (d := 27) (v := .slice (some ⟨bg, 2 + 64 * i, none⟩) (65536 - 64 * i) (65536 - 64 * i)) (by show Value.slice (some ⟨bg, 0 + 2 + (64 * (i : Int)).toNat * 1, none⟩) (65536 - (64 * (i : Int)).toNat) (65536 - (64 * (i : Int)).toNat) = _; rw [show (64 * (i : Int)).toNat = 64 * i by omega, Nat.zero_add, Nat.mul_one]) ?_
    refine G.moveS rfl trivial rfl rfl rfl ?_
    refine G.copyA (vs := bytesV (d.l[386 + i]'(by omega)).now) (.next .here) rfl trivial rfl rfl Tryz.underlying80 I5 rfl rfl (by decide) (by rw [bytesV_length, hx64]; omega) (Rd.row0 .here) bytesV_ok (by rw [lrow_length hcl, bytesV_length, hx64]; omega) _ (lrow_splice hcl (by rw [bytesV_length, hx64]) hlt) ?_
    rw [show (ringU d i ++ cs.drop (64 * i)).take (64 * i) ++ bytesV (d.l[386 + i]'(by omega)).now ++ (ringU d i ++ cs.drop (64 * i)).drop (64 * i + 64) = ringU d (i + 1) ++ cs.drop (64 * (i + 1)) by rw [List.take_left' hul, ringU_succ hn hlt, List.drop_append, hul, List.drop_eq_nil_of_le (by omega), List.nil_append, List.drop_drop]; congr 2; omega]
    refine G.less (fun _ h => h.tail) ?_
    refine G.nil ?_
    refine C.region ?_
    refine G.add rfl trivial rfl rfl rfl rfl (by omega) ?_
    refine G.moveI rfl trivial rfl rfl rfl ?_
    refine G.nil ?_
    exact ⟨1024 - (i + 1), by omega, i + 1, by omega, rfl, rfl, rfl, rfl, rfl⟩
  · intro hc0
    obtain rfl : i = 1024 := by omega
    refine C.exit ?_
    refine C.seq ?_
    refine C.region ?_
    refine G.assignI rfl trivial rfl rfl rfl ?_
    refine G.nil ?_
    refine C.ret ?_
    -- end c0F
    exact ⟨rfl, _, Res.of (rs := [.tmp 2]) rfl rfl, by rw [List.drop_eq_nil_of_le (by omega), List.append_nil], rfl⟩
end
end Go.Proofs.YtokggoikffcijaaGreatDoor
