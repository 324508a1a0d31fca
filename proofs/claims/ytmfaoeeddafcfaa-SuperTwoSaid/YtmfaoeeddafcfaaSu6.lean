/-
  The law SuperTwo, walked.
-/
import Derived.Test.YtmfaoeeddafcfaaSu5
namespace Go.Proofs.Ytmfaoeeddafcfaa
open Go Go.SL Go.RowKit

def leftB : List UInt8 := [108, 101, 102, 116]
def rightB : List UInt8 := [114, 105, 103, 104, 116]
def twoD : Dv := ((newDv 6).put 0 leftB).put 5 rightB
theorem twoD_eq0 : wr (newDv 6) 0 leftB = ((newDv 6).put 0 leftB, 0) := wr_live (i := 0) (new_live 6) (by decide) (by decide)
theorem twoD_eq5 : wr ((newDv 6).put 0 leftB) 5 rightB = (twoD, 0) := wr_live (i := 5) (live_put (new_live 6) _ _) (by decide) (by decide)
theorem twoD0_ok : ((newDv 6).put 0 leftB).ok := Dv.put_ok (newDv_ok (by decide)) rfl (by decide)
theorem twoD_ok : twoD.ok := Dv.put_ok twoD0_ok rfl (by decide)
theorem twoD_now0 : nowAt twoD 0 = over leftB zero64 := by kernel_rfl
theorem twoD_now5 : nowAt twoD 5 = over rightB zero64 := by kernel_rfl
theorem over_take {b s : List UInt8} : (over b s).take b.length = b := by simp [over]
/-- two texts on a device, and what stands beside them -/
structure Two (d : Dv) (p q : Sp) (n m : Nat) (a b : List UInt8) : Prop where
  ok : d.ok
  live : d.live
  len : d.l.length = 6
  clean : d.clean
  sp : Slots d p n
  sq : Slots d q m
  pa : p.at_ = 1
  qa : q.at_ = 3
  pt : p.text = a
  qt : q.text = b
  left : nowAt d 0 = over leftB zero64
  right : nowAt d 5 = over rightB zero64
theorem Two.start {a b : List UInt8} (ha : a.length ≤ 40) (hb : b.length ≤ 40) : Two (mkD (mkD twoD 1 a) 3 b) { at_ := 1, slot := 0, turn := 1, text := a } { at_ := 3, slot := 0, turn := 1, text := b } 1 1 a b := by
  have h0 := twoD_ok
  have hl : twoD.l.length = 6 := by simp only [twoD, Dv.put, List.length_modify]; rfl
  have hv : twoD.live := ⟨rfl, rfl⟩
  have hn0 := twoD_now0
  have hn5 := twoD_now5
  generalize twoD = d at *
  have n1 := mkD_now d h0 hv 1 (by omega) ha
  have ok1 := mkD_ok h0 hv 1 ha
  have lv1 : (mkD d 1 a).live := mkD_live hv 1 a
  have ln1 : (mkD d 1 a).l.length = 6 := by rw [mkD_length]; exact hl
  have s1 := Slots.made d h0 hv 1 (by omega) ha
  generalize mkD d 1 a = e at *
  have n2 := mkD_now e ok1 lv1 3 (by omega) hb
  refine ⟨mkD_ok ok1 lv1 3 hb, mkD_live lv1 3 b, by rw [mkD_length]; exact ln1, flush_clean _, s1.congr ?_ ?_, Slots.made e ok1 lv1 3 (by omega) hb, rfl, rfl, rfl, rfl, ?_, ?_⟩
  · show nowAt _ (1 + 0) = _
    rw [n2, if_neg (by omega), if_neg (by omega)]
  · show nowAt _ (1 + 1) = _
    rw [n2, if_neg (by omega), if_neg (by omega)]
  · rw [n2, if_neg (by omega), if_neg (by omega), n1, if_neg (by omega), if_neg (by omega)]
    exact hn0
  · rw [n2, if_neg (by omega), if_neg (by omega), n1, if_neg (by omega), if_neg (by omega)]
    exact hn5
theorem Two.left_saves {d : Dv} {p q : Sp} {n m : Nat} {a b : List UInt8} (h : Two d p q n m a b) (ha : a.length ≤ 40) : Two (sav d p n a) (nextP p n a) q (n + 1) m a b := by
  have hk : p.at_ + 1 < d.l.length := by rw [h.pa, h.len]; decide
  have ho := fun j hj => sav_other d h.ok hk n ha (j := j) hj h.sp.slot
  have hpa := h.pa
  have hqa := h.qa
  refine ⟨sav_ok h.ok h.live p n ha, sav_live h.live p n a, by rw [sav_length]; exact h.len, flush_clean _, h.sp.saved h.ok hk ha, h.sq.congr (ho _ (by omega)) (ho _ (by omega)), h.pa, h.qa, rfl, h.qt, ?_, ?_⟩
  · rw [ho 0 (by omega)]; exact h.left
  · rw [ho 5 (by omega)]; exact h.right
theorem Two.right_saves {d : Dv} {p q : Sp} {n m : Nat} {a b : List UInt8} (h : Two d p q n m a b) (hb : b.length ≤ 40) : Two (sav d q m b) p (nextP q m b) n (m + 1) a b := by
  have hk : q.at_ + 1 < d.l.length := by rw [h.qa, h.len]; decide
  have ho := fun j hj => sav_other d h.ok hk m hb (j := j) hj h.sq.slot
  have hpa := h.pa
  have hqa := h.qa
  refine ⟨sav_ok h.ok h.live q m hb, sav_live h.live q m b, by rw [sav_length]; exact h.len, flush_clean _, h.sp.congr (ho _ (by omega)) (ho _ (by omega)), h.sq.saved h.ok hk hb, h.pa, h.qa, h.pt, rfl, ?_, ?_⟩
  · rw [ho 0 (by omega)]; exact h.left
  · rw [ho 5 (by omega)]; exact h.right
theorem two_walk (W0 : World) (a0 a1 a2 : Option Addr) (c0 c1 c2 : Nat) (a b : List UInt8) (ks : List Bool) (ha : a.length ≤ 40) (hb : b.length ≤ 40) (hk : ks.length ≤ 9223372036854775807)
    (r0 : ∀ L, Rd W0 L a0 (bytesV a)) (r1 : ∀ L, Rd W0 L a1 (bytesV b)) (r2 : ∀ L, Rd W0 L a2 (ks.map Value.bool)) :
    FnS Try.prog W0 4 #[.slice a0 a.length c0, .slice a1 b.length c1, .slice a2 ks.length c2] [] (fun e _ => e = .returned (.bool true)) := by
  refine FnS.of (args := [.slice a0 a.length c0, .slice a1 b.length c1, .slice a2 ks.length c2]) Try.func4 rfl rfl ?_
  refine C.seq ?_
  refine C.region ?_
  refine G.assignB rfl trivial rfl rfl rfl ?_
  refine G.nil ?_
  refine C.seq ?_
  refine C.region ?_
  refine G.call E10 rfl rfl trivial rfl rfl (beganS_spec W0 _) rfl ?_
  rintro e L2 ⟨rfl, rfl⟩
  refine G.assignB rfl trivial rfl rfl rfl ?_
  refine G.nil ?_
  refine C.seq ?_
  refine C.seq ?_
  refine C.region ?_
  refine G.moveB rfl trivial rfl rfl rfl ?_
  first | refine G.notD rfl trivial rfl rfl rfl ?_ | refine G.not rfl trivial rfl rfl rfl ?_
  refine G.nil ?_
  refine C.condF rfl ?_
  refine C.skip ?_
  refine C.seq ?_
  refine C.seq ?_
  refine C.region ?_
  refine G.moveS rfl trivial rfl rfl rfl ?_
  refine G.lenSlice rfl trivial rfl rfl Try.underlying28 rfl ?_
  refine G.bin rfl trivial rfl rfl rfl rfl rfl ?_
  refine G.moveB rfl trivial rfl rfl rfl ?_
  refine G.no (t := 29) rfl (by omega) ?_
  refine G.moveS rfl ⟨_, rfl, rfl, rfl⟩ rfl rfl rfl ?_
  refine G.lenSlice rfl ⟨_, rfl, rfl, rfl⟩ rfl rfl Try.underlying28 rfl ?_
  refine G.bin rfl ⟨_, rfl, rfl, rfl⟩ rfl rfl rfl rfl rfl ?_
  first | refine G.pickT rfl trivial rfl rfl rfl rfl ?_ | refine G.pickF rfl trivial rfl rfl rfl rfl ?_
  refine G.nil ?_
  refine C.no rfl (by omega) ?_
  refine C.skip ?_
  refine C.seq ?_
  refine C.region ?_
  refine G.call E7 rfl rfl trivial rfl rfl (new_spec W0 _ 6) rfl ?_
  rintro e L2 ⟨bd, bl, rfl, rfl⟩
  rw [show clampN 6 = 6 from rfl]
  refine G.assignP rfl trivial rfl rfl rfl ?_
  refine G.nil ?_
  refine C.seq ?_
  refine C.region ?_
  refine G.moveP rfl trivial rfl rfl rfl ?_
  refine G.buildSliceL (cs := [.int .u8 108, .int .u8 101, .int .u8 102, .int .u8 116]) (zs := [(.int .u8 0), (.int .u8 0), (.int .u8 0), (.int .u8 0)]) rfl trivial rfl rfl Try.underlying28 I5 rfl (by kernel_rfl) rfl rfl ?_
  intro b36
  refine G.convSame (by first | exact .here | exact .next .here | exact .next (.next .here) | exact .next (.next (.next .here)) | exact .next (.next (.next (.next .here))) | exact .next (.next (.next (.next (.next .here)))) | exact .next (.next (.next (.next (.next (.next .here))))) | exact .next (.next (.next (.next (.next (.next (.next .here)))))) | exact .in1 | exact .next .in1 | exact .next (.next .in1) | exact .next (.next (.next .in1)) | exact .next (.next (.next (.next .in1))) | exact .in2 | exact .next .in2 | exact .next (.next .in2) | exact .next (.next (.next .in2)) | exact .next (.next (.next (.next .in2))) | exact .app .here | exact .app (.next .here) | exact .app (.next (.next .here)) | exact .app (.next (.next (.next .here))) | exact .app (.next (.next (.next (.next .here)))) | exact .app (.next (.next (.next (.next (.next .here))))) | exact .app (.next (.next (.next (.next (.next (.next .here)))))) | exact .app (.next (.next (.next (.next (.next (.next (.next .here))))))) | exact .app .in1 | exact .app .in2 | exact .app (.next .in1) | exact .next (.app .in1) | exact .next (.next (.app .in1)) | exact .next (.app .here) | exact .next (.next (.app .here)) | exact .next (.next (.next (.app .here))) | exact .next (.next (.next (.next (.app .here))))) rfl rfl trivial rfl rfl Try.underlying28 Try.underlying5 rfl ?_
  refine G.call E14 rfl rfl trivial rfl rfl (write_spec W0 [_] _ bd bl (newDv 6) (newDv_ok (by decide)) 0 _ 4 4 leftB rfl (fun _ => Rd.row0 (cs := bytesV leftB) .here)) rfl ?_
  rintro e L2 ⟨rfl, rfl⟩
  rw [twoD_eq0]
  refine G.nil ?_
  refine C.seq ?_
  refine C.region ?_
  refine G.moveP rfl trivial rfl rfl rfl ?_
  refine G.buildSliceL (cs := [.int .u8 114, .int .u8 105, .int .u8 103, .int .u8 104, .int .u8 116]) (zs := [(.int .u8 0), (.int .u8 0), (.int .u8 0), (.int .u8 0), (.int .u8 0)]) rfl trivial rfl rfl Try.underlying28 I5 rfl (by kernel_rfl) rfl rfl ?_
  intro b40
  refine G.convSame (by first | exact .here | exact .next .here | exact .next (.next .here) | exact .next (.next (.next .here)) | exact .next (.next (.next (.next .here))) | exact .next (.next (.next (.next (.next .here)))) | exact .next (.next (.next (.next (.next (.next .here))))) | exact .next (.next (.next (.next (.next (.next (.next .here)))))) | exact .in1 | exact .next .in1 | exact .next (.next .in1) | exact .next (.next (.next .in1)) | exact .next (.next (.next (.next .in1))) | exact .in2 | exact .next .in2 | exact .next (.next .in2) | exact .next (.next (.next .in2)) | exact .next (.next (.next (.next .in2))) | exact .app .here | exact .app (.next .here) | exact .app (.next (.next .here)) | exact .app (.next (.next (.next .here))) | exact .app (.next (.next (.next (.next .here)))) | exact .app (.next (.next (.next (.next (.next .here))))) | exact .app (.next (.next (.next (.next (.next (.next .here)))))) | exact .app (.next (.next (.next (.next (.next (.next (.next .here))))))) | exact .app .in1 | exact .app .in2 | exact .app (.next .in1) | exact .next (.app .in1) | exact .next (.next (.app .in1)) | exact .next (.app .here) | exact .next (.next (.app .here)) | exact .next (.next (.next (.app .here))) | exact .next (.next (.next (.next (.app .here))))) rfl rfl trivial rfl rfl Try.underlying28 Try.underlying5 rfl ?_
  refine G.call E14 rfl rfl trivial rfl rfl (write_spec W0 [_, _] _ bd bl _ twoD0_ok 5 _ 5 5 rightB rfl (fun _ => Rd.row0 (cs := bytesV rightB) .here)) rfl ?_
  rintro e L2 ⟨rfl, rfl⟩
  rw [twoD_eq5]
  have hst := Two.start ha hb
  have hokT := twoD_ok
  have hliveT : twoD.live := ⟨rfl, rfl⟩
  have hlenT : twoD.l.length = 6 := by simp only [twoD, Dv.put, List.length_modify]; rfl
  generalize twoD = dT at *
  refine G.less (fun _ h => h.tail.tail) ?_
  refine G.nil ?_
  refine C.seq ?_
  refine C.region ?_
  refine G.moveP rfl trivial rfl rfl rfl ?_
  refine G.moveS rfl trivial rfl rfl rfl ?_
  refine G.call E8 rfl rfl trivial rfl rfl (make_ok W0 [] _ bd bl dT hokT hliveT 1 (by omega) a0 c0 a ha (fun _ => r0 _)) rfl ?_
  rintro e L2 ⟨bs, sg, hsg, rfl, rfl⟩
  have hokA := mkD_ok hokT hliveT 1 ha
  have hliveA : (mkD dT 1 a).live := mkD_live hliveT 1 a
  have hlenA : (mkD dT 1 a).l.length = 6 := by rw [mkD_length]; exact hlenT
  generalize mkD dT 1 a = dA at *
  refine G.moveU rfl trivial rfl rfl rfl ?_
  refine G.extractL rfl trivial rfl rfl rfl rfl ?_
  refine G.extractL rfl trivial rfl rfl rfl rfl ?_
  refine G.assignP rfl trivial rfl rfl rfl ?_
  refine G.assignI rfl trivial rfl rfl rfl ?_
  refine G.nil ?_
  refine C.seq ?_
  refine C.region ?_
  refine G.moveP rfl trivial rfl rfl rfl ?_
  refine G.moveS rfl trivial rfl rfl rfl ?_
  refine G.call E8 rfl rfl trivial rfl rfl (make_ok W0 [_] _ bd bl dA hokA hliveA 3 (by omega) a1 c1 b hb (fun _ => r1 _)) rfl ?_
  rintro e L2 ⟨bt, st, hst2, rfl, rfl⟩
  generalize mkD dA 3 b = dB at *
  refine G.moveU rfl trivial rfl rfl rfl ?_
  refine G.extractL rfl trivial rfl rfl rfl rfl ?_
  refine G.extractL rfl trivial rfl rfl rfl rfl ?_
  refine G.assignP rfl trivial rfl rfl rfl ?_
  refine G.assignI rfl trivial rfl rfl rfl ?_
  refine G.nil ?_
  refine C.seq ?_
  refine C.seq ?_
  refine C.region ?_
  refine G.moveI rfl trivial rfl rfl rfl ?_
  refine G.bin rfl trivial rfl rfl rfl rfl rfl ?_
  refine G.no (t := 56) rfl (by simp) ?_
  refine G.moveB rfl trivial rfl rfl rfl ?_
  refine G.moveI rfl ⟨_, rfl, rfl, rfl⟩ rfl rfl rfl ?_
  refine G.bin rfl ⟨_, rfl, rfl, rfl⟩ rfl rfl rfl rfl rfl ?_
  refine G.no (t := 59) rfl (by simp) ?_
  first | refine G.pickT rfl trivial rfl rfl rfl rfl ?_ | refine G.pickF rfl trivial rfl rfl rfl rfl ?_
  refine G.nil ?_
  refine C.condF rfl ?_
  refine C.skip ?_
  refine C.seq ?_
  refine C.region ?_
  refine G.assignI rfl trivial rfl rfl rfl ?_
  refine G.assignI rfl trivial rfl rfl rfl ?_
  refine G.nil ?_
  refine C.seq ?_
  refine C.seq ?_
  refine C.region ?_
  refine G.assignI rfl trivial rfl rfl rfl ?_
  refine G.nil ?_
  refine C.block ?_
  refine C.loop (fun m F D' L' => ∃ (i : Nat) (d : Dv) (p q : Sp) (n k : Nat) (s1 s2 : Seg), i ≤ ks.length ∧ i ≤ 10 ∧ n ≤ i + 1 ∧ k ≤ i + 1 ∧ Two d p q n k a b ∧ SpIs bs bd p s1 ∧ SpIs bt bd q s2 ∧ m = ks.length - i ∧ F 15 = .int .i64 i ∧ F 13 = .int .i64 (n : Int) ∧ F 14 = .int .i64 (k : Int) ∧ F 9 = ptr bs ∧ F 11 = ptr bt ∧ F 8 = ptr bd ∧ F 0 = .slice a0 a.length c0 ∧ F 1 = .slice a1 b.length c1 ∧ F 2 = .slice a2 ks.length c2 ∧ D' = [] ∧ s2 :: devSeg bd bl d :: s1 :: [] = L') ⟨_, ⟨0, dB, _, _, 1, 1, sg, st, by omega, by omega, by omega, by omega, hst, hsg, hst2, rfl, rfl, rfl, rfl, rfl, rfl, rfl, rfl, rfl, rfl, rfl, rfl⟩⟩ ?_
  rintro m F D' L' ⟨i, d, p, q, n, k, s1, s2, hi, hi10, hn, hk2, h, hs1, hs2, rfl, h15, h13, h14, h9, h11, h8, h0', h1', h2', rfl, rfl⟩
  refine C.fix (d := 15) h15 ?_
  refine C.fix (d := 13) h13 ?_
  refine C.fix (d := 14) h14 ?_
  refine C.fix (d := 9) h9 ?_
  refine C.fix (d := 11) h11 ?_
  refine C.fix (d := 8) h8 ?_
  refine C.fix (d := 0) h0' ?_
  refine C.fix (d := 1) h1' ?_
  refine C.fix (d := 2) h2' ?_
  refine C.seq ?_
  refine C.seq ?_
  refine C.region ?_
  refine G.moveI rfl trivial rfl rfl rfl ?_
  refine G.moveS rfl trivial rfl rfl rfl ?_
  refine G.lenSlice rfl trivial rfl rfl Try.underlying34 rfl ?_
  refine G.bin rfl trivial rfl rfl rfl rfl rfl ?_
  refine G.moveB rfl trivial rfl rfl rfl ?_
  refine G.fork (t := 65) _ rfl ?_ ?_
  · intro hg65
    refine G.moveI rfl ⟨_, rfl, rfl, rfl⟩ rfl rfl rfl ?_
    refine G.bin rfl ⟨_, rfl, rfl, rfl⟩ rfl rfl rfl rfl rfl ?_
    first | refine G.pickT rfl trivial rfl rfl rfl rfl ?_ | refine G.pickF rfl trivial rfl rfl rfl rfl ?_
    refine G.nil ?_
    refine C.cond _ rfl ?_ ?_
    · intro hc3
      have hlt : i < ks.length := by omega
      obtain ⟨p2, o2, rfl, _⟩ := (r2 []).some_ (by simp; omega)
      refine C.skip ?_
      refine C.seq ?_
      refine C.block ?_
      refine C.seq ?_
      refine C.seq ?_
      refine C.region ?_
      refine G.moveS rfl trivial rfl rfl rfl ?_
      refine G.moveI rfl trivial rfl rfl rfl ?_
      refine G.indexAddr rfl trivial rfl rfl Try.underlying34 I4 rfl rfl (by omega) ?_
      refine G.load (v := .bool ks[i]) rfl trivial rfl rfl Try.underlying4 rfl rfl (fun w hm => BoolRow.at r2 hlt w hm) ?_
      refine G.nil ?_
      refine C.condB _ rfl ?_ ?_
      · intro hc4
        refine C.seq ?_
        refine C.region ?_
        refine G.moveI rfl trivial rfl rfl rfl ?_
        refine G.add rfl trivial rfl rfl rfl rfl (by omega) ?_
        refine G.fix (d := 76) (v := .int .i64 ((n + 1 : Nat) : Int)) rfl ?_
        refine G.assignI rfl trivial rfl rfl rfl ?_
        refine G.nil ?_
        refine C.region ?_
        refine G.moveP rfl trivial rfl rfl rfl ?_
        refine G.moveS rfl trivial rfl rfl rfl ?_
        refine G.less (fun _ h => h.turn3) ?_
        refine G.call E11 rfl rfl trivial rfl rfl (save_live W0 _ bs bd bl d h.ok h.live p s1 hs1 n h.sp (by omega) (by rw [h.pa, h.len]; decide) a0 _ c0 a rfl ha (fun _ => r0 _)) rfl ?_
        rintro e L2 ⟨s3, rfl, hs3, rfl⟩
        refine G.assignI rfl trivial rfl rfl rfl ?_
        refine G.less (fun _ h => h.turn3) ?_
        refine G.nil ?_
        refine C.seq ?_
        refine C.region ?_
        refine G.moveI rfl trivial rfl rfl rfl ?_
        refine G.bin rfl trivial rfl rfl rfl rfl rfl ?_
        refine G.nil ?_
        refine C.no rfl (by simp) ?_
        refine C.skip ?_
        refine C.region ?_
        refine G.moveI rfl trivial rfl rfl rfl ?_
        refine G.add rfl trivial rfl rfl rfl rfl (by omega) ?_
        refine G.assignI rfl trivial rfl rfl rfl ?_
        refine G.nil ?_
        exact ⟨ks.length - (i + 1), by omega, i + 1, sav d p n a, nextP p n a, q, n + 1, k, s3, s2, by omega, by omega, by omega, by omega, h.left_saves ha, hs3, hs2, rfl, rfl, rfl, rfl, rfl, rfl, rfl, rfl, rfl, rfl, rfl, rfl⟩
      · intro hc4
        refine C.seq ?_
        refine C.region ?_
        refine G.moveI rfl trivial rfl rfl rfl ?_
        refine G.add rfl trivial rfl rfl rfl rfl (by omega) ?_
        refine G.fix (d := 81) (v := .int .i64 ((k + 1 : Nat) : Int)) rfl ?_
        refine G.assignI rfl trivial rfl rfl rfl ?_
        refine G.nil ?_
        refine C.region ?_
        refine G.moveP rfl trivial rfl rfl rfl ?_
        refine G.moveS rfl trivial rfl rfl rfl ?_
        refine G.call E11 rfl rfl trivial rfl rfl (save_live W0 _ bt bd bl d h.ok h.live q s2 hs2 k h.sq (by omega) (by rw [h.qa, h.len]; decide) a1 _ c1 b rfl hb (fun _ => r1 _)) rfl ?_
        rintro e L2 ⟨s3, rfl, hs3, rfl⟩
        refine G.assignI rfl trivial rfl rfl rfl ?_
        refine G.nil ?_
        refine C.seq ?_
        refine C.region ?_
        refine G.moveI rfl trivial rfl rfl rfl ?_
        refine G.bin rfl trivial rfl rfl rfl rfl rfl ?_
        refine G.nil ?_
        refine C.no rfl (by simp) ?_
        refine C.skip ?_
        refine C.region ?_
        refine G.moveI rfl trivial rfl rfl rfl ?_
        refine G.add rfl trivial rfl rfl rfl rfl (by omega) ?_
        refine G.assignI rfl trivial rfl rfl rfl ?_
        refine G.nil ?_
        exact ⟨ks.length - (i + 1), by omega, i + 1, sav d q k b, p, nextP q k b, n, k + 1, s1, s3, by omega, by omega, by omega, by omega, h.right_saves hb, hs1, hs3, rfl, rfl, rfl, rfl, rfl, rfl, rfl, rfl, rfl, rfl, rfl, rfl⟩
    · intro hc3
      refine C.exit ?_
      refine C.seq ?_
      refine C.region ?_
      refine G.moveP rfl trivial rfl rfl rfl ?_
      refine G.call E15 rfl rfl trivial rfl rfl (crash_spec W0 [_] _ bd bl d h.ok (by rw [h.len]; decide) none 0 [] (Nat.le_refl _) (fun _ => Rd.nil)) rfl ?_
      rintro e L2 ⟨bc, bcl, rfl, rfl⟩
      have hcok := crash_ok h.ok []
      have hcp := h.sp.crash h.clean []
      have hcq := h.sq.crash h.clean []
      have hcl : (d.crash []).l.length = 6 := by rw [crash_len]; exact h.len
      have hc0 : nowAt (d.crash []) 0 = over leftB zero64 := by rw [nowAt_crash_clean h.clean]; exact h.left
      have hc5 : nowAt (d.crash []) 5 = over rightB zero64 := by rw [nowAt_crash_clean h.clean]; exact h.right
      obtain ⟨rfl, hpa⟩ : a = p.text ∧ p.at_ = 1 := ⟨h.pt.symm, h.pa⟩
      obtain ⟨rfl, hqa⟩ : b = q.text ∧ q.at_ = 3 := ⟨h.qt.symm, h.qa⟩
      generalize d.crash [] = dc at *
      refine G.assignP rfl trivial rfl rfl rfl ?_
      refine G.nil ?_
      refine C.seq ?_
      refine C.region ?_
      refine G.moveP rfl trivial rfl rfl rfl ?_
      refine G.call E9 rfl rfl trivial rfl rfl (open_slots W0 [] _ bc bcl dc hcok p n hcp (by omega) (by omega) (by omega)) rfl ?_
      rintro e L2 ⟨bx, sx, hsx, rfl, rfl⟩
      refine G.moveU rfl trivial rfl rfl rfl ?_
      refine G.extractL rfl trivial rfl rfl rfl rfl ?_
      refine G.extractL rfl trivial rfl rfl rfl rfl ?_
      refine G.assignP rfl trivial rfl rfl rfl ?_
      refine G.assignI rfl trivial rfl rfl rfl ?_
      refine G.nil ?_
      refine C.seq ?_
      refine C.region ?_
      refine G.moveP rfl trivial rfl rfl rfl ?_
      refine G.call E9 rfl rfl trivial rfl rfl (open_slots W0 [_] _ bc bcl dc hcok q k hcq (by omega) (by omega) (by omega)) rfl ?_
      rintro e L2 ⟨by_, sy, hsy, rfl, rfl⟩
      refine G.moveU rfl trivial rfl rfl rfl ?_
      refine G.extractL rfl trivial rfl rfl rfl rfl ?_
      refine G.extractL rfl trivial rfl rfl rfl rfl ?_
      refine G.assignP rfl trivial rfl rfl rfl ?_
      refine G.assignI rfl trivial rfl rfl rfl ?_
      refine G.nil ?_
      refine C.seq ?_
      refine C.seq ?_
      refine C.region ?_
      refine G.moveI rfl trivial rfl rfl rfl ?_
      refine G.bin rfl trivial rfl rfl rfl rfl rfl ?_
      refine G.no (t := 100) rfl (by simp) ?_
      refine G.moveB rfl trivial rfl rfl rfl ?_
      refine G.moveI rfl ⟨_, rfl, rfl, rfl⟩ rfl rfl rfl ?_
      refine G.bin rfl ⟨_, rfl, rfl, rfl⟩ rfl rfl rfl rfl rfl ?_
      refine G.no (t := 103) rfl (by simp) ?_
      first | refine G.pickT rfl trivial rfl rfl rfl rfl ?_ | refine G.pickF rfl trivial rfl rfl rfl rfl ?_
      refine G.nil ?_
      refine C.condF rfl ?_
      refine C.skip ?_
      refine C.seq ?_
      refine C.region ?_
      refine G.moveP rfl trivial rfl rfl rfl ?_
      refine G.call E16 rfl rfl trivial rfl rfl (read_ok W0 [_, _] _ bc bcl dc hcok 0 (by omega)) rfl ?_
      rintro e L2 ⟨v, sl, hvl, rfl, rfl⟩
      rw [nowAt_eq, hc0] at hvl
      obtain ⟨al, cl, rfl, hrl⟩ := hvl.form
      have hcl64 := hvl.cap
      refine G.moveU rfl trivial rfl rfl rfl ?_
      refine G.extractL rfl trivial rfl rfl rfl rfl ?_
      refine G.extractL rfl trivial rfl rfl rfl rfl ?_
      refine G.assignS rfl trivial rfl rfl rfl ?_
      refine G.assignI rfl trivial rfl rfl rfl ?_
      refine G.nil ?_
      refine C.seq ?_
      refine C.region ?_
      refine G.moveP rfl trivial rfl rfl rfl ?_
      refine G.call E16 rfl rfl trivial rfl rfl (read_ok W0 [_, _, _] _ bc bcl dc hcok 5 (by omega)) rfl ?_
      rintro e L2 ⟨v, sr, hvr, rfl, rfl⟩
      rw [nowAt_eq, hc5] at hvr
      obtain ⟨ar, cr, rfl, hrr⟩ := hvr.form
      have hcr64 := hvr.cap
      refine G.moveU rfl trivial rfl rfl rfl ?_
      refine G.extractL rfl trivial rfl rfl rfl rfl ?_
      refine G.extractL rfl trivial rfl rfl rfl rfl ?_
      refine G.assignS rfl trivial rfl rfl rfl ?_
      refine G.assignI rfl trivial rfl rfl rfl ?_
      refine G.nil ?_
      refine C.seq ?_
      refine C.drawn mixed (_) [] (fun _ h => h) ?_
      refine GA.pure (i := 0) (fun _ _ _ _ _ h => h) rfl (by kernel_rfl) trivial rfl rfl (Y.moveP rfl rfl) (#[true, false, false, false, false, false, false, false, false, false, false, false, false, false, false, false, false, false, false, false, false, false, false, false, false, false, false, false, false, false, false, false, false, false, false, false, false, false, false]) (by kernel_rfl) ?_
      refine GA.pure (i := 3) (fun _ _ _ _ _ h => h) rfl (by kernel_rfl) trivial rfl rfl (Y.moveS rfl rfl) (#[true, false, false, true, false, false, false, false, false, false, false, false, false, false, false, false, false, false, false, false, false, false, false, false, false, false, false, false, false, false, false, false, false, false, false, false, false, false, false]) (by kernel_rfl) ?_
      refine GA.read (i := 4) (fun _ _ _ _ _ h => h) rfl (by kernel_rfl) (by kernel_rfl) trivial rfl rfl (Y.bytesStr p.text rfl Try.underlying28 Try.underlying5 Try.underlying9 rfl rfl (r0 _)) (#[true, false, false, true, true, false, false, false, false, false, false, false, false, false, false, false, false, false, false, false, false, false, false, false, false, false, false, false, false, false, false, false, false, false, false, false, false, false, false]) (by kernel_rfl) ?_
      refine GA.one (i := 1) rfl (by kernel_rfl) (#[true, true, false, true, true, false, false, false, false, false, false, false, false, false, false, false, false, false, false, false, false, false, false, false, false, false, false, false, false, false, false, false, false, false, false, false, false, false, false]) (by kernel_rfl) ?_
      refine G.call E12 rfl rfl trivial rfl rfl (text_spec W0 [_, _, _] _ bx bc p sx hsx (by omega)) rfl ?_
      rintro e L2 ⟨v116, s116, hv116, rfl, rfl⟩
      obtain ⟨a116, c116, rfl, hr116⟩ := hv116.form
      refine G.nil ?_
      refine ⟨fun _ _ h => (by first | exact h | exact h.tail | exact h.tail.tail | exact h.tail.tail.tail), ?_⟩
      refine GA.one (i := 2) rfl (by kernel_rfl) (#[true, true, true, true, true, false, false, false, false, false, false, false, false, false, false, false, false, false, false, false, false, false, false, false, false, false, false, false, false, false, false, false, false, false, false, false, false, false, false]) (by kernel_rfl) ?_
      refine G.bytesStr p.text rfl trivial rfl rfl Try.underlying28 Try.underlying5 Try.underlying9 rfl rfl (hr116 _ _) ?_
      refine G.nil ?_
      refine ⟨fun _ _ h => (by first | exact h | exact h.tail | exact h.tail.tail | exact h.tail.tail.tail), ?_⟩
      refine GA.pure (i := 5) (fun _ _ _ _ _ h => h) rfl (by kernel_rfl) trivial rfl rfl (Y.strEq rfl  rfl rfl) (#[true, true, true, true, true, true, false, false, false, false, false, false, false, false, false, false, false, false, false, false, false, false, false, false, false, false, false, false, false, false, false, false, false, false, false, false, false, false, false]) (by kernel_rfl) ?_
      refine GA.yes (t := 120) rfl rfl ?_
      refine GA.pure (i := 6) (fun _ _ _ _ _ h => h) rfl (by kernel_rfl) trivial rfl rfl (Y.moveB rfl rfl) (#[true, true, true, true, true, true, true, false, false, false, false, false, false, false, false, false, false, false, false, false, false, false, false, false, false, false, false, false, false, false, false, false, false, false, false, false, false, false, false]) (by kernel_rfl) ?_
      refine GA.pure (i := 7) (fun _ _ _ _ _ h => h) rfl (by kernel_rfl) ⟨_, rfl, rfl, rfl⟩ rfl rfl (Y.moveP rfl rfl) (#[true, true, true, true, true, true, true, true, false, false, false, false, false, false, false, false, false, false, false, false, false, false, false, false, false, false, false, false, false, false, false, false, false, false, false, false, false, false, false]) (by kernel_rfl) ?_
      refine GA.pure (i := 9) (fun _ _ _ _ _ h => h) rfl (by kernel_rfl) ⟨_, rfl, rfl, rfl⟩ rfl rfl (Y.moveI rfl rfl) (#[true, true, true, true, true, true, true, true, false, true, false, false, false, false, false, false, false, false, false, false, false, false, false, false, false, false, false, false, false, false, false, false, false, false, false, false, false, false, false]) (by kernel_rfl) ?_
      refine GA.one (i := 8) rfl (by kernel_rfl) (#[true, true, true, true, true, true, true, true, true, true, false, false, false, false, false, false, false, false, false, false, false, false, false, false, false, false, false, false, false, false, false, false, false, false, false, false, false, false, false]) (by kernel_rfl) ?_
      refine G.call E13 rfl rfl ⟨_, rfl, rfl, rfl⟩ rfl rfl (turn_spec W0 [_, _, _, _] _ bx bc p sx hsx) rfl ?_
      rintro e L2 ⟨rfl, rfl⟩
      refine G.nil ?_
      refine ⟨fun _ _ h => (by first | exact h | exact h.tail | exact h.tail.tail | exact h.tail.tail.tail), ?_⟩
      refine GA.pure (i := 10) (fun _ _ _ _ _ h => h) rfl (by kernel_rfl) ⟨_, rfl, rfl, rfl⟩ rfl rfl (Y.bin rfl rfl rfl rfl) (#[true, true, true, true, true, true, true, true, true, true, true, false, false, false, false, false, false, false, false, false, false, false, false, false, false, false, false, false, false, false, false, false, false, false, false, false, false, false, false]) (by kernel_rfl) ?_
      refine GA.yes (t := 125) rfl hcp.turn ?_
      first | refine GA.pure (i := 11) (fun _ _ _ _ _ h => h) rfl (by kernel_rfl) trivial rfl rfl (Y.pickT rfl rfl rfl) (#[true, true, true, true, true, true, true, true, true, true, true, true, false, false, false, false, false, false, false, false, false, false, false, false, false, false, false, false, false, false, false, false, false, false, false, false, false, false, false]) (by kernel_rfl) ?_ | refine GA.pure (i := 11) (fun _ _ _ _ _ h => h) rfl (by kernel_rfl) trivial rfl rfl (Y.pickF rfl rfl rfl) (#[true, true, true, true, true, true, true, true, true, true, true, true, false, false, false, false, false, false, false, false, false, false, false, false, false, false, false, false, false, false, false, false, false, false, false, false, false, false, false]) (by kernel_rfl) ?_
      refine GA.pure (i := 12) (fun _ _ _ _ _ h => h) rfl (by kernel_rfl) trivial rfl rfl (Y.moveB rfl rfl) (#[true, true, true, true, true, true, true, true, true, true, true, true, true, false, false, false, false, false, false, false, false, false, false, false, false, false, false, false, false, false, false, false, false, false, false, false, false, false, false]) (by kernel_rfl) ?_
      refine GA.pure (i := 13) (fun _ _ _ _ _ h => h) rfl (by kernel_rfl) ⟨_, rfl, rfl, rfl⟩ rfl rfl (Y.moveP rfl rfl) (#[true, true, true, true, true, true, true, true, true, true, true, true, true, true, false, false, false, false, false, false, false, false, false, false, false, false, false, false, false, false, false, false, false, false, false, false, false, false, false]) (by kernel_rfl) ?_
      refine GA.pure (i := 16) (fun _ _ _ _ _ h => h) rfl (by kernel_rfl) ⟨_, rfl, rfl, rfl⟩ rfl rfl (Y.moveS rfl rfl) (#[true, true, true, true, true, true, true, true, true, true, true, true, true, true, false, false, true, false, false, false, false, false, false, false, false, false, false, false, false, false, false, false, false, false, false, false, false, false, false]) (by kernel_rfl) ?_
      refine GA.read (i := 17) (fun _ _ _ _ _ h => h) rfl (by kernel_rfl) (by kernel_rfl) ⟨_, rfl, rfl, rfl⟩ rfl rfl (Y.bytesStr q.text rfl Try.underlying28 Try.underlying5 Try.underlying9 rfl rfl (r1 _)) (#[true, true, true, true, true, true, true, true, true, true, true, true, true, true, false, false, true, true, false, false, false, false, false, false, false, false, false, false, false, false, false, false, false, false, false, false, false, false, false]) (by kernel_rfl) ?_
      refine GA.one (i := 14) rfl (by kernel_rfl) (#[true, true, true, true, true, true, true, true, true, true, true, true, true, true, true, false, true, true, false, false, false, false, false, false, false, false, false, false, false, false, false, false, false, false, false, false, false, false, false]) (by kernel_rfl) ?_
      refine G.call E12 rfl rfl ⟨_, rfl, rfl, rfl⟩ rfl rfl (text_spec W0 [_, _, _] _ by_ bc q sy hsy (by omega)) rfl ?_
      rintro e L2 ⟨v129, s129, hv129, rfl, rfl⟩
      obtain ⟨a129, c129, rfl, hr129⟩ := hv129.form
      refine G.nil ?_
      refine ⟨fun _ _ h => (by first | exact h | exact h.tail | exact h.tail.tail | exact h.tail.tail.tail), ?_⟩
      refine GA.one (i := 15) rfl (by kernel_rfl) (#[true, true, true, true, true, true, true, true, true, true, true, true, true, true, true, true, true, true, false, false, false, false, false, false, false, false, false, false, false, false, false, false, false, false, false, false, false, false, false]) (by kernel_rfl) ?_
      refine G.bytesStr q.text rfl ⟨_, rfl, rfl, rfl⟩ rfl rfl Try.underlying28 Try.underlying5 Try.underlying9 rfl rfl (hr129 _ _) ?_
      refine G.nil ?_
      refine ⟨fun _ _ h => (by first | exact h | exact h.tail | exact h.tail.tail | exact h.tail.tail.tail), ?_⟩
      refine GA.pure (i := 18) (fun _ _ _ _ _ h => h) rfl (by kernel_rfl) ⟨_, rfl, rfl, rfl⟩ rfl rfl (Y.strEq rfl  rfl rfl) (#[true, true, true, true, true, true, true, true, true, true, true, true, true, true, true, true, true, true, true, false, false, false, false, false, false, false, false, false, false, false, false, false, false, false, false, false, false, false, false]) (by kernel_rfl) ?_
      refine GA.yes (t := 133) rfl rfl ?_
      first | refine GA.pure (i := 19) (fun _ _ _ _ _ h => h) rfl (by kernel_rfl) trivial rfl rfl (Y.pickT rfl rfl rfl) (#[true, true, true, true, true, true, true, true, true, true, true, true, true, true, true, true, true, true, true, true, false, false, false, false, false, false, false, false, false, false, false, false, false, false, false, false, false, false, false]) (by kernel_rfl) ?_ | refine GA.pure (i := 19) (fun _ _ _ _ _ h => h) rfl (by kernel_rfl) trivial rfl rfl (Y.pickF rfl rfl rfl) (#[true, true, true, true, true, true, true, true, true, true, true, true, true, true, true, true, true, true, true, true, false, false, false, false, false, false, false, false, false, false, false, false, false, false, false, false, false, false, false]) (by kernel_rfl) ?_
      refine GA.pure (i := 20) (fun _ _ _ _ _ h => h) rfl (by kernel_rfl) trivial rfl rfl (Y.moveB rfl rfl) (#[true, true, true, true, true, true, true, true, true, true, true, true, true, true, true, true, true, true, true, true, true, false, false, false, false, false, false, false, false, false, false, false, false, false, false, false, false, false, false]) (by kernel_rfl) ?_
      refine GA.pure (i := 21) (fun _ _ _ _ _ h => h) rfl (by kernel_rfl) ⟨_, rfl, rfl, rfl⟩ rfl rfl (Y.moveP rfl rfl) (#[true, true, true, true, true, true, true, true, true, true, true, true, true, true, true, true, true, true, true, true, true, true, false, false, false, false, false, false, false, false, false, false, false, false, false, false, false, false, false]) (by kernel_rfl) ?_
      refine GA.pure (i := 23) (fun _ _ _ _ _ h => h) rfl (by kernel_rfl) ⟨_, rfl, rfl, rfl⟩ rfl rfl (Y.moveI rfl rfl) (#[true, true, true, true, true, true, true, true, true, true, true, true, true, true, true, true, true, true, true, true, true, true, false, true, false, false, false, false, false, false, false, false, false, false, false, false, false, false, false]) (by kernel_rfl) ?_
      refine GA.one (i := 22) rfl (by kernel_rfl) (#[true, true, true, true, true, true, true, true, true, true, true, true, true, true, true, true, true, true, true, true, true, true, true, true, false, false, false, false, false, false, false, false, false, false, false, false, false, false, false]) (by kernel_rfl) ?_
      refine G.call E13 rfl rfl ⟨_, rfl, rfl, rfl⟩ rfl rfl (turn_spec W0 [_, _, _, _] _ by_ bc q sy hsy) rfl ?_
      rintro e L2 ⟨rfl, rfl⟩
      refine G.nil ?_
      refine ⟨fun _ _ h => (by first | exact h | exact h.tail | exact h.tail.tail | exact h.tail.tail.tail), ?_⟩
      refine GA.pure (i := 24) (fun _ _ _ _ _ h => h) rfl (by kernel_rfl) ⟨_, rfl, rfl, rfl⟩ rfl rfl (Y.bin rfl rfl rfl rfl) (#[true, true, true, true, true, true, true, true, true, true, true, true, true, true, true, true, true, true, true, true, true, true, true, true, true, false, false, false, false, false, false, false, false, false, false, false, false, false, false]) (by kernel_rfl) ?_
      refine GA.yes (t := 139) rfl hcq.turn ?_
      first | refine GA.pure (i := 25) (fun _ _ _ _ _ h => h) rfl (by kernel_rfl) trivial rfl rfl (Y.pickT rfl rfl rfl) (#[true, true, true, true, true, true, true, true, true, true, true, true, true, true, true, true, true, true, true, true, true, true, true, true, true, true, false, false, false, false, false, false, false, false, false, false, false, false, false]) (by kernel_rfl) ?_ | refine GA.pure (i := 25) (fun _ _ _ _ _ h => h) rfl (by kernel_rfl) trivial rfl rfl (Y.pickF rfl rfl rfl) (#[true, true, true, true, true, true, true, true, true, true, true, true, true, true, true, true, true, true, true, true, true, true, true, true, true, true, false, false, false, false, false, false, false, false, false, false, false, false, false]) (by kernel_rfl) ?_
      refine GA.pure (i := 26) (fun _ _ _ _ _ h => h) rfl (by kernel_rfl) trivial rfl rfl (Y.moveB rfl rfl) (#[true, true, true, true, true, true, true, true, true, true, true, true, true, true, true, true, true, true, true, true, true, true, true, true, true, true, true, false, false, false, false, false, false, false, false, false, false, false, false]) (by kernel_rfl) ?_
      refine GA.pure (i := 27) (fun _ _ _ _ _ h => h) rfl (by kernel_rfl) ⟨_, rfl, rfl, rfl⟩ rfl rfl (Y.moveS rfl rfl) (#[true, true, true, true, true, true, true, true, true, true, true, true, true, true, true, true, true, true, true, true, true, true, true, true, true, true, true, true, false, false, false, false, false, false, false, false, false, false, false]) (by kernel_rfl) ?_
      refine GA.pure (i := 28) (fun _ _ _ _ _ h => h) rfl (by kernel_rfl) ⟨_, rfl, rfl, rfl⟩ rfl rfl (Y.sliceH rfl Try.underlying28 I5 rfl rfl (by omega)) (#[true, true, true, true, true, true, true, true, true, true, true, true, true, true, true, true, true, true, true, true, true, true, true, true, true, true, true, true, true, false, false, false, false, false, false, false, false, false, false]) (by kernel_rfl) ?_
      refine GA.read (i := 29) (fun _ _ _ _ _ h => h) rfl (by kernel_rfl) (by kernel_rfl) ⟨_, rfl, rfl, rfl⟩ rfl rfl (Y.bytesStr leftB rfl Try.underlying28 Try.underlying5 Try.underlying9 rfl rfl (by have h := ((hrl W0 (sy :: sx :: (devSeg bc bcl dc :: ([s2] ++ (devSeg bd bl d :: s1 :: []))))).take (n := 4)).cons (s := sr); rw [bytesV_take, show (4 : Nat) = leftB.length from rfl, over_take] at h; exact h)) (#[true, true, true, true, true, true, true, true, true, true, true, true, true, true, true, true, true, true, true, true, true, true, true, true, true, true, true, true, true, true, false, false, false, false, false, false, false, false, false]) (by kernel_rfl) ?_
      refine GA.pure (i := 30) (fun _ _ _ _ _ h => h) rfl (by kernel_rfl) ⟨_, rfl, rfl, rfl⟩ rfl rfl (Y.strEq rfl  rfl rfl) (#[true, true, true, true, true, true, true, true, true, true, true, true, true, true, true, true, true, true, true, true, true, true, true, true, true, true, true, true, true, true, true, false, false, false, false, false, false, false, false]) (by kernel_rfl) ?_
      refine GA.yes (t := 145) rfl rfl ?_
      first | refine GA.pure (i := 31) (fun _ _ _ _ _ h => h) rfl (by kernel_rfl) trivial rfl rfl (Y.pickT rfl rfl rfl) (#[true, true, true, true, true, true, true, true, true, true, true, true, true, true, true, true, true, true, true, true, true, true, true, true, true, true, true, true, true, true, true, true, false, false, false, false, false, false, false]) (by kernel_rfl) ?_ | refine GA.pure (i := 31) (fun _ _ _ _ _ h => h) rfl (by kernel_rfl) trivial rfl rfl (Y.pickF rfl rfl rfl) (#[true, true, true, true, true, true, true, true, true, true, true, true, true, true, true, true, true, true, true, true, true, true, true, true, true, true, true, true, true, true, true, true, false, false, false, false, false, false, false]) (by kernel_rfl) ?_
      refine GA.pure (i := 32) (fun _ _ _ _ _ h => h) rfl (by kernel_rfl) trivial rfl rfl (Y.moveB rfl rfl) (#[true, true, true, true, true, true, true, true, true, true, true, true, true, true, true, true, true, true, true, true, true, true, true, true, true, true, true, true, true, true, true, true, true, false, false, false, false, false, false]) (by kernel_rfl) ?_
      refine GA.pure (i := 33) (fun _ _ _ _ _ h => h) rfl (by kernel_rfl) ⟨_, rfl, rfl, rfl⟩ rfl rfl (Y.moveS rfl rfl) (#[true, true, true, true, true, true, true, true, true, true, true, true, true, true, true, true, true, true, true, true, true, true, true, true, true, true, true, true, true, true, true, true, true, true, false, false, false, false, false]) (by kernel_rfl) ?_
      refine GA.pure (i := 34) (fun _ _ _ _ _ h => h) rfl (by kernel_rfl) ⟨_, rfl, rfl, rfl⟩ rfl rfl (Y.sliceH rfl Try.underlying28 I5 rfl rfl (by omega)) (#[true, true, true, true, true, true, true, true, true, true, true, true, true, true, true, true, true, true, true, true, true, true, true, true, true, true, true, true, true, true, true, true, true, true, true, false, false, false, false]) (by kernel_rfl) ?_
      refine GA.read (i := 35) (fun _ _ _ _ _ h => h) rfl (by kernel_rfl) (by kernel_rfl) ⟨_, rfl, rfl, rfl⟩ rfl rfl (Y.bytesStr rightB rfl Try.underlying28 Try.underlying5 Try.underlying9 rfl rfl (by have h := (hrr W0 (sl :: sy :: sx :: (devSeg bc bcl dc :: ([s2] ++ (devSeg bd bl d :: s1 :: []))))).take (n := 5); rw [bytesV_take, show (5 : Nat) = rightB.length from rfl, over_take] at h; exact h)) (#[true, true, true, true, true, true, true, true, true, true, true, true, true, true, true, true, true, true, true, true, true, true, true, true, true, true, true, true, true, true, true, true, true, true, true, true, false, false, false]) (by kernel_rfl) ?_
      refine GA.pure (i := 36) (fun _ _ _ _ _ h => h) rfl (by kernel_rfl) ⟨_, rfl, rfl, rfl⟩ rfl rfl (Y.strEq rfl  rfl rfl) (#[true, true, true, true, true, true, true, true, true, true, true, true, true, true, true, true, true, true, true, true, true, true, true, true, true, true, true, true, true, true, true, true, true, true, true, true, true, false, false]) (by kernel_rfl) ?_
      refine GA.yes (t := 151) rfl rfl ?_
      first | refine GA.pure (i := 37) (fun _ _ _ _ _ h => h) rfl (by kernel_rfl) trivial rfl rfl (Y.pickT rfl rfl rfl) (#[true, true, true, true, true, true, true, true, true, true, true, true, true, true, true, true, true, true, true, true, true, true, true, true, true, true, true, true, true, true, true, true, true, true, true, true, true, true, false]) (by kernel_rfl) ?_ | refine GA.pure (i := 37) (fun _ _ _ _ _ h => h) rfl (by kernel_rfl) trivial rfl rfl (Y.pickF rfl rfl rfl) (#[true, true, true, true, true, true, true, true, true, true, true, true, true, true, true, true, true, true, true, true, true, true, true, true, true, true, true, true, true, true, true, true, true, true, true, true, true, true, false]) (by kernel_rfl) ?_
      refine GA.pure (i := 38) (fun _ _ _ _ _ h => h) rfl (by kernel_rfl) trivial rfl rfl (Y.assignB rfl rfl) (#[true, true, true, true, true, true, true, true, true, true, true, true, true, true, true, true, true, true, true, true, true, true, true, true, true, true, true, true, true, true, true, true, true, true, true, true, true, true, true]) (by kernel_rfl) ?_
      refine GA.done (by kernel_rfl) ?_
      refine C.ret ?_
      -- end g65Tc3F
      exact ⟨rfl, _, Res.of (rs := [.tmp 6]) rfl rfl, rfl⟩
  · intro hg65
    refine G.skip rfl rfl rfl rfl rfl rfl ?_
    refine G.skip rfl rfl rfl rfl rfl rfl ?_
    first | refine G.pickT rfl trivial rfl rfl rfl rfl ?_ | refine G.pickF rfl trivial rfl rfl rfl rfl ?_
    refine G.nil ?_
    refine C.condF rfl ?_
    refine C.exit ?_
    refine C.seq ?_
    refine C.region ?_
    refine G.moveP rfl trivial rfl rfl rfl ?_
    refine G.call E15 rfl rfl trivial rfl rfl (crash_spec W0 [_] _ bd bl d h.ok (by rw [h.len]; decide) none 0 [] (Nat.le_refl _) (fun _ => Rd.nil)) rfl ?_
    rintro e L2 ⟨bc, bcl, rfl, rfl⟩
    have hcok := crash_ok h.ok []
    have hcp := h.sp.crash h.clean []
    have hcq := h.sq.crash h.clean []
    have hcl : (d.crash []).l.length = 6 := by rw [crash_len]; exact h.len
    have hc0 : nowAt (d.crash []) 0 = over leftB zero64 := by rw [nowAt_crash_clean h.clean]; exact h.left
    have hc5 : nowAt (d.crash []) 5 = over rightB zero64 := by rw [nowAt_crash_clean h.clean]; exact h.right
    obtain ⟨rfl, hpa⟩ : a = p.text ∧ p.at_ = 1 := ⟨h.pt.symm, h.pa⟩
    obtain ⟨rfl, hqa⟩ : b = q.text ∧ q.at_ = 3 := ⟨h.qt.symm, h.qa⟩
    generalize d.crash [] = dc at *
    refine G.assignP rfl trivial rfl rfl rfl ?_
    refine G.nil ?_
    refine C.seq ?_
    refine C.region ?_
    refine G.moveP rfl trivial rfl rfl rfl ?_
    refine G.call E9 rfl rfl trivial rfl rfl (open_slots W0 [] _ bc bcl dc hcok p n hcp (by omega) (by omega) (by omega)) rfl ?_
    rintro e L2 ⟨bx, sx, hsx, rfl, rfl⟩
    refine G.moveU rfl trivial rfl rfl rfl ?_
    refine G.extractL rfl trivial rfl rfl rfl rfl ?_
    refine G.extractL rfl trivial rfl rfl rfl rfl ?_
    refine G.assignP rfl trivial rfl rfl rfl ?_
    refine G.assignI rfl trivial rfl rfl rfl ?_
    refine G.nil ?_
    refine C.seq ?_
    refine C.region ?_
    refine G.moveP rfl trivial rfl rfl rfl ?_
    refine G.call E9 rfl rfl trivial rfl rfl (open_slots W0 [_] _ bc bcl dc hcok q k hcq (by omega) (by omega) (by omega)) rfl ?_
    rintro e L2 ⟨by_, sy, hsy, rfl, rfl⟩
    refine G.moveU rfl trivial rfl rfl rfl ?_
    refine G.extractL rfl trivial rfl rfl rfl rfl ?_
    refine G.extractL rfl trivial rfl rfl rfl rfl ?_
    refine G.assignP rfl trivial rfl rfl rfl ?_
    refine G.assignI rfl trivial rfl rfl rfl ?_
    refine G.nil ?_
    refine C.seq ?_
    refine C.seq ?_
    refine C.region ?_
    refine G.moveI rfl trivial rfl rfl rfl ?_
    refine G.bin rfl trivial rfl rfl rfl rfl rfl ?_
    refine G.no (t := 100) rfl (by simp) ?_
    refine G.moveB rfl trivial rfl rfl rfl ?_
    refine G.moveI rfl ⟨_, rfl, rfl, rfl⟩ rfl rfl rfl ?_
    refine G.bin rfl ⟨_, rfl, rfl, rfl⟩ rfl rfl rfl rfl rfl ?_
    refine G.no (t := 103) rfl (by simp) ?_
    first | refine G.pickT rfl trivial rfl rfl rfl rfl ?_ | refine G.pickF rfl trivial rfl rfl rfl rfl ?_
    refine G.nil ?_
    refine C.condF rfl ?_
    refine C.skip ?_
    refine C.seq ?_
    refine C.region ?_
    refine G.moveP rfl trivial rfl rfl rfl ?_
    refine G.call E16 rfl rfl trivial rfl rfl (read_ok W0 [_, _] _ bc bcl dc hcok 0 (by omega)) rfl ?_
    rintro e L2 ⟨v, sl, hvl, rfl, rfl⟩
    rw [nowAt_eq, hc0] at hvl
    obtain ⟨al, cl, rfl, hrl⟩ := hvl.form
    have hcl64 := hvl.cap
    refine G.moveU rfl trivial rfl rfl rfl ?_
    refine G.extractL rfl trivial rfl rfl rfl rfl ?_
    refine G.extractL rfl trivial rfl rfl rfl rfl ?_
    refine G.assignS rfl trivial rfl rfl rfl ?_
    refine G.assignI rfl trivial rfl rfl rfl ?_
    refine G.nil ?_
    refine C.seq ?_
    refine C.region ?_
    refine G.moveP rfl trivial rfl rfl rfl ?_
    refine G.call E16 rfl rfl trivial rfl rfl (read_ok W0 [_, _, _] _ bc bcl dc hcok 5 (by omega)) rfl ?_
    rintro e L2 ⟨v, sr, hvr, rfl, rfl⟩
    rw [nowAt_eq, hc5] at hvr
    obtain ⟨ar, cr, rfl, hrr⟩ := hvr.form
    have hcr64 := hvr.cap
    refine G.moveU rfl trivial rfl rfl rfl ?_
    refine G.extractL rfl trivial rfl rfl rfl rfl ?_
    refine G.extractL rfl trivial rfl rfl rfl rfl ?_
    refine G.assignS rfl trivial rfl rfl rfl ?_
    refine G.assignI rfl trivial rfl rfl rfl ?_
    refine G.nil ?_
    refine C.seq ?_
    refine C.drawn mixed (_) [] (fun _ h => h) ?_
    refine GA.pure (i := 0) (fun _ _ _ _ _ h => h) rfl (by kernel_rfl) trivial rfl rfl (Y.moveP rfl rfl) (#[true, false, false, false, false, false, false, false, false, false, false, false, false, false, false, false, false, false, false, false, false, false, false, false, false, false, false, false, false, false, false, false, false, false, false, false, false, false, false]) (by kernel_rfl) ?_
    refine GA.pure (i := 3) (fun _ _ _ _ _ h => h) rfl (by kernel_rfl) trivial rfl rfl (Y.moveS rfl rfl) (#[true, false, false, true, false, false, false, false, false, false, false, false, false, false, false, false, false, false, false, false, false, false, false, false, false, false, false, false, false, false, false, false, false, false, false, false, false, false, false]) (by kernel_rfl) ?_
    refine GA.read (i := 4) (fun _ _ _ _ _ h => h) rfl (by kernel_rfl) (by kernel_rfl) trivial rfl rfl (Y.bytesStr p.text rfl Try.underlying28 Try.underlying5 Try.underlying9 rfl rfl (r0 _)) (#[true, false, false, true, true, false, false, false, false, false, false, false, false, false, false, false, false, false, false, false, false, false, false, false, false, false, false, false, false, false, false, false, false, false, false, false, false, false, false]) (by kernel_rfl) ?_
    refine GA.one (i := 1) rfl (by kernel_rfl) (#[true, true, false, true, true, false, false, false, false, false, false, false, false, false, false, false, false, false, false, false, false, false, false, false, false, false, false, false, false, false, false, false, false, false, false, false, false, false, false]) (by kernel_rfl) ?_
    refine G.call E12 rfl rfl trivial rfl rfl (text_spec W0 [_, _, _] _ bx bc p sx hsx (by omega)) rfl ?_
    rintro e L2 ⟨v116, s116, hv116, rfl, rfl⟩
    obtain ⟨a116, c116, rfl, hr116⟩ := hv116.form
    refine G.nil ?_
    refine ⟨fun _ _ h => (by first | exact h | exact h.tail | exact h.tail.tail | exact h.tail.tail.tail), ?_⟩
    refine GA.one (i := 2) rfl (by kernel_rfl) (#[true, true, true, true, true, false, false, false, false, false, false, false, false, false, false, false, false, false, false, false, false, false, false, false, false, false, false, false, false, false, false, false, false, false, false, false, false, false, false]) (by kernel_rfl) ?_
    refine G.bytesStr p.text rfl trivial rfl rfl Try.underlying28 Try.underlying5 Try.underlying9 rfl rfl (hr116 _ _) ?_
    refine G.nil ?_
    refine ⟨fun _ _ h => (by first | exact h | exact h.tail | exact h.tail.tail | exact h.tail.tail.tail), ?_⟩
    refine GA.pure (i := 5) (fun _ _ _ _ _ h => h) rfl (by kernel_rfl) trivial rfl rfl (Y.strEq rfl  rfl rfl) (#[true, true, true, true, true, true, false, false, false, false, false, false, false, false, false, false, false, false, false, false, false, false, false, false, false, false, false, false, false, false, false, false, false, false, false, false, false, false, false]) (by kernel_rfl) ?_
    refine GA.yes (t := 120) rfl rfl ?_
    refine GA.pure (i := 6) (fun _ _ _ _ _ h => h) rfl (by kernel_rfl) trivial rfl rfl (Y.moveB rfl rfl) (#[true, true, true, true, true, true, true, false, false, false, false, false, false, false, false, false, false, false, false, false, false, false, false, false, false, false, false, false, false, false, false, false, false, false, false, false, false, false, false]) (by kernel_rfl) ?_
    refine GA.pure (i := 7) (fun _ _ _ _ _ h => h) rfl (by kernel_rfl) ⟨_, rfl, rfl, rfl⟩ rfl rfl (Y.moveP rfl rfl) (#[true, true, true, true, true, true, true, true, false, false, false, false, false, false, false, false, false, false, false, false, false, false, false, false, false, false, false, false, false, false, false, false, false, false, false, false, false, false, false]) (by kernel_rfl) ?_
    refine GA.pure (i := 9) (fun _ _ _ _ _ h => h) rfl (by kernel_rfl) ⟨_, rfl, rfl, rfl⟩ rfl rfl (Y.moveI rfl rfl) (#[true, true, true, true, true, true, true, true, false, true, false, false, false, false, false, false, false, false, false, false, false, false, false, false, false, false, false, false, false, false, false, false, false, false, false, false, false, false, false]) (by kernel_rfl) ?_
    refine GA.one (i := 8) rfl (by kernel_rfl) (#[true, true, true, true, true, true, true, true, true, true, false, false, false, false, false, false, false, false, false, false, false, false, false, false, false, false, false, false, false, false, false, false, false, false, false, false, false, false, false]) (by kernel_rfl) ?_
    refine G.call E13 rfl rfl ⟨_, rfl, rfl, rfl⟩ rfl rfl (turn_spec W0 [_, _, _, _] _ bx bc p sx hsx) rfl ?_
    rintro e L2 ⟨rfl, rfl⟩
    refine G.nil ?_
    refine ⟨fun _ _ h => (by first | exact h | exact h.tail | exact h.tail.tail | exact h.tail.tail.tail), ?_⟩
    refine GA.pure (i := 10) (fun _ _ _ _ _ h => h) rfl (by kernel_rfl) ⟨_, rfl, rfl, rfl⟩ rfl rfl (Y.bin rfl rfl rfl rfl) (#[true, true, true, true, true, true, true, true, true, true, true, false, false, false, false, false, false, false, false, false, false, false, false, false, false, false, false, false, false, false, false, false, false, false, false, false, false, false, false]) (by kernel_rfl) ?_
    refine GA.yes (t := 125) rfl hcp.turn ?_
    first | refine GA.pure (i := 11) (fun _ _ _ _ _ h => h) rfl (by kernel_rfl) trivial rfl rfl (Y.pickT rfl rfl rfl) (#[true, true, true, true, true, true, true, true, true, true, true, true, false, false, false, false, false, false, false, false, false, false, false, false, false, false, false, false, false, false, false, false, false, false, false, false, false, false, false]) (by kernel_rfl) ?_ | refine GA.pure (i := 11) (fun _ _ _ _ _ h => h) rfl (by kernel_rfl) trivial rfl rfl (Y.pickF rfl rfl rfl) (#[true, true, true, true, true, true, true, true, true, true, true, true, false, false, false, false, false, false, false, false, false, false, false, false, false, false, false, false, false, false, false, false, false, false, false, false, false, false, false]) (by kernel_rfl) ?_
    refine GA.pure (i := 12) (fun _ _ _ _ _ h => h) rfl (by kernel_rfl) trivial rfl rfl (Y.moveB rfl rfl) (#[true, true, true, true, true, true, true, true, true, true, true, true, true, false, false, false, false, false, false, false, false, false, false, false, false, false, false, false, false, false, false, false, false, false, false, false, false, false, false]) (by kernel_rfl) ?_
    refine GA.pure (i := 13) (fun _ _ _ _ _ h => h) rfl (by kernel_rfl) ⟨_, rfl, rfl, rfl⟩ rfl rfl (Y.moveP rfl rfl) (#[true, true, true, true, true, true, true, true, true, true, true, true, true, true, false, false, false, false, false, false, false, false, false, false, false, false, false, false, false, false, false, false, false, false, false, false, false, false, false]) (by kernel_rfl) ?_
    refine GA.pure (i := 16) (fun _ _ _ _ _ h => h) rfl (by kernel_rfl) ⟨_, rfl, rfl, rfl⟩ rfl rfl (Y.moveS rfl rfl) (#[true, true, true, true, true, true, true, true, true, true, true, true, true, true, false, false, true, false, false, false, false, false, false, false, false, false, false, false, false, false, false, false, false, false, false, false, false, false, false]) (by kernel_rfl) ?_
    refine GA.read (i := 17) (fun _ _ _ _ _ h => h) rfl (by kernel_rfl) (by kernel_rfl) ⟨_, rfl, rfl, rfl⟩ rfl rfl (Y.bytesStr q.text rfl Try.underlying28 Try.underlying5 Try.underlying9 rfl rfl (r1 _)) (#[true, true, true, true, true, true, true, true, true, true, true, true, true, true, false, false, true, true, false, false, false, false, false, false, false, false, false, false, false, false, false, false, false, false, false, false, false, false, false]) (by kernel_rfl) ?_
    refine GA.one (i := 14) rfl (by kernel_rfl) (#[true, true, true, true, true, true, true, true, true, true, true, true, true, true, true, false, true, true, false, false, false, false, false, false, false, false, false, false, false, false, false, false, false, false, false, false, false, false, false]) (by kernel_rfl) ?_
    refine G.call E12 rfl rfl ⟨_, rfl, rfl, rfl⟩ rfl rfl (text_spec W0 [_, _, _] _ by_ bc q sy hsy (by omega)) rfl ?_
    rintro e L2 ⟨v129, s129, hv129, rfl, rfl⟩
    obtain ⟨a129, c129, rfl, hr129⟩ := hv129.form
    refine G.nil ?_
    refine ⟨fun _ _ h => (by first | exact h | exact h.tail | exact h.tail.tail | exact h.tail.tail.tail), ?_⟩
    refine GA.one (i := 15) rfl (by kernel_rfl) (#[true, true, true, true, true, true, true, true, true, true, true, true, true, true, true, true, true, true, false, false, false, false, false, false, false, false, false, false, false, false, false, false, false, false, false, false, false, false, false]) (by kernel_rfl) ?_
    refine G.bytesStr q.text rfl ⟨_, rfl, rfl, rfl⟩ rfl rfl Try.underlying28 Try.underlying5 Try.underlying9 rfl rfl (hr129 _ _) ?_
    refine G.nil ?_
    refine ⟨fun _ _ h => (by first | exact h | exact h.tail | exact h.tail.tail | exact h.tail.tail.tail), ?_⟩
    refine GA.pure (i := 18) (fun _ _ _ _ _ h => h) rfl (by kernel_rfl) ⟨_, rfl, rfl, rfl⟩ rfl rfl (Y.strEq rfl  rfl rfl) (#[true, true, true, true, true, true, true, true, true, true, true, true, true, true, true, true, true, true, true, false, false, false, false, false, false, false, false, false, false, false, false, false, false, false, false, false, false, false, false]) (by kernel_rfl) ?_
    refine GA.yes (t := 133) rfl rfl ?_
    first | refine GA.pure (i := 19) (fun _ _ _ _ _ h => h) rfl (by kernel_rfl) trivial rfl rfl (Y.pickT rfl rfl rfl) (#[true, true, true, true, true, true, true, true, true, true, true, true, true, true, true, true, true, true, true, true, false, false, false, false, false, false, false, false, false, false, false, false, false, false, false, false, false, false, false]) (by kernel_rfl) ?_ | refine GA.pure (i := 19) (fun _ _ _ _ _ h => h) rfl (by kernel_rfl) trivial rfl rfl (Y.pickF rfl rfl rfl) (#[true, true, true, true, true, true, true, true, true, true, true, true, true, true, true, true, true, true, true, true, false, false, false, false, false, false, false, false, false, false, false, false, false, false, false, false, false, false, false]) (by kernel_rfl) ?_
    refine GA.pure (i := 20) (fun _ _ _ _ _ h => h) rfl (by kernel_rfl) trivial rfl rfl (Y.moveB rfl rfl) (#[true, true, true, true, true, true, true, true, true, true, true, true, true, true, true, true, true, true, true, true, true, false, false, false, false, false, false, false, false, false, false, false, false, false, false, false, false, false, false]) (by kernel_rfl) ?_
    refine GA.pure (i := 21) (fun _ _ _ _ _ h => h) rfl (by kernel_rfl) ⟨_, rfl, rfl, rfl⟩ rfl rfl (Y.moveP rfl rfl) (#[true, true, true, true, true, true, true, true, true, true, true, true, true, true, true, true, true, true, true, true, true, true, false, false, false, false, false, false, false, false, false, false, false, false, false, false, false, false, false]) (by kernel_rfl) ?_
    refine GA.pure (i := 23) (fun _ _ _ _ _ h => h) rfl (by kernel_rfl) ⟨_, rfl, rfl, rfl⟩ rfl rfl (Y.moveI rfl rfl) (#[true, true, true, true, true, true, true, true, true, true, true, true, true, true, true, true, true, true, true, true, true, true, false, true, false, false, false, false, false, false, false, false, false, false, false, false, false, false, false]) (by kernel_rfl) ?_
    refine GA.one (i := 22) rfl (by kernel_rfl) (#[true, true, true, true, true, true, true, true, true, true, true, true, true, true, true, true, true, true, true, true, true, true, true, true, false, false, false, false, false, false, false, false, false, false, false, false, false, false, false]) (by kernel_rfl) ?_
    refine G.call E13 rfl rfl ⟨_, rfl, rfl, rfl⟩ rfl rfl (turn_spec W0 [_, _, _, _] _ by_ bc q sy hsy) rfl ?_
    rintro e L2 ⟨rfl, rfl⟩
    refine G.nil ?_
    refine ⟨fun _ _ h => (by first | exact h | exact h.tail | exact h.tail.tail | exact h.tail.tail.tail), ?_⟩
    refine GA.pure (i := 24) (fun _ _ _ _ _ h => h) rfl (by kernel_rfl) ⟨_, rfl, rfl, rfl⟩ rfl rfl (Y.bin rfl rfl rfl rfl) (#[true, true, true, true, true, true, true, true, true, true, true, true, true, true, true, true, true, true, true, true, true, true, true, true, true, false, false, false, false, false, false, false, false, false, false, false, false, false, false]) (by kernel_rfl) ?_
    refine GA.yes (t := 139) rfl hcq.turn ?_
    first | refine GA.pure (i := 25) (fun _ _ _ _ _ h => h) rfl (by kernel_rfl) trivial rfl rfl (Y.pickT rfl rfl rfl) (#[true, true, true, true, true, true, true, true, true, true, true, true, true, true, true, true, true, true, true, true, true, true, true, true, true, true, false, false, false, false, false, false, false, false, false, false, false, false, false]) (by kernel_rfl) ?_ | refine GA.pure (i := 25) (fun _ _ _ _ _ h => h) rfl (by kernel_rfl) trivial rfl rfl (Y.pickF rfl rfl rfl) (#[true, true, true, true, true, true, true, true, true, true, true, true, true, true, true, true, true, true, true, true, true, true, true, true, true, true, false, false, false, false, false, false, false, false, false, false, false, false, false]) (by kernel_rfl) ?_
    refine GA.pure (i := 26) (fun _ _ _ _ _ h => h) rfl (by kernel_rfl) trivial rfl rfl (Y.moveB rfl rfl) (#[true, true, true, true, true, true, true, true, true, true, true, true, true, true, true, true, true, true, true, true, true, true, true, true, true, true, true, false, false, false, false, false, false, false, false, false, false, false, false]) (by kernel_rfl) ?_
    refine GA.pure (i := 27) (fun _ _ _ _ _ h => h) rfl (by kernel_rfl) ⟨_, rfl, rfl, rfl⟩ rfl rfl (Y.moveS rfl rfl) (#[true, true, true, true, true, true, true, true, true, true, true, true, true, true, true, true, true, true, true, true, true, true, true, true, true, true, true, true, false, false, false, false, false, false, false, false, false, false, false]) (by kernel_rfl) ?_
    refine GA.pure (i := 28) (fun _ _ _ _ _ h => h) rfl (by kernel_rfl) ⟨_, rfl, rfl, rfl⟩ rfl rfl (Y.sliceH rfl Try.underlying28 I5 rfl rfl (by omega)) (#[true, true, true, true, true, true, true, true, true, true, true, true, true, true, true, true, true, true, true, true, true, true, true, true, true, true, true, true, true, false, false, false, false, false, false, false, false, false, false]) (by kernel_rfl) ?_
    refine GA.read (i := 29) (fun _ _ _ _ _ h => h) rfl (by kernel_rfl) (by kernel_rfl) ⟨_, rfl, rfl, rfl⟩ rfl rfl (Y.bytesStr leftB rfl Try.underlying28 Try.underlying5 Try.underlying9 rfl rfl (by have h := ((hrl W0 (sy :: sx :: (devSeg bc bcl dc :: ([s2] ++ (devSeg bd bl d :: s1 :: []))))).take (n := 4)).cons (s := sr); rw [bytesV_take, show (4 : Nat) = leftB.length from rfl, over_take] at h; exact h)) (#[true, true, true, true, true, true, true, true, true, true, true, true, true, true, true, true, true, true, true, true, true, true, true, true, true, true, true, true, true, true, false, false, false, false, false, false, false, false, false]) (by kernel_rfl) ?_
    refine GA.pure (i := 30) (fun _ _ _ _ _ h => h) rfl (by kernel_rfl) ⟨_, rfl, rfl, rfl⟩ rfl rfl (Y.strEq rfl  rfl rfl) (#[true, true, true, true, true, true, true, true, true, true, true, true, true, true, true, true, true, true, true, true, true, true, true, true, true, true, true, true, true, true, true, false, false, false, false, false, false, false, false]) (by kernel_rfl) ?_
    refine GA.yes (t := 145) rfl rfl ?_
    first | refine GA.pure (i := 31) (fun _ _ _ _ _ h => h) rfl (by kernel_rfl) trivial rfl rfl (Y.pickT rfl rfl rfl) (#[true, true, true, true, true, true, true, true, true, true, true, true, true, true, true, true, true, true, true, true, true, true, true, true, true, true, true, true, true, true, true, true, false, false, false, false, false, false, false]) (by kernel_rfl) ?_ | refine GA.pure (i := 31) (fun _ _ _ _ _ h => h) rfl (by kernel_rfl) trivial rfl rfl (Y.pickF rfl rfl rfl) (#[true, true, true, true, true, true, true, true, true, true, true, true, true, true, true, true, true, true, true, true, true, true, true, true, true, true, true, true, true, true, true, true, false, false, false, false, false, false, false]) (by kernel_rfl) ?_
    refine GA.pure (i := 32) (fun _ _ _ _ _ h => h) rfl (by kernel_rfl) trivial rfl rfl (Y.moveB rfl rfl) (#[true, true, true, true, true, true, true, true, true, true, true, true, true, true, true, true, true, true, true, true, true, true, true, true, true, true, true, true, true, true, true, true, true, false, false, false, false, false, false]) (by kernel_rfl) ?_
    refine GA.pure (i := 33) (fun _ _ _ _ _ h => h) rfl (by kernel_rfl) ⟨_, rfl, rfl, rfl⟩ rfl rfl (Y.moveS rfl rfl) (#[true, true, true, true, true, true, true, true, true, true, true, true, true, true, true, true, true, true, true, true, true, true, true, true, true, true, true, true, true, true, true, true, true, true, false, false, false, false, false]) (by kernel_rfl) ?_
    refine GA.pure (i := 34) (fun _ _ _ _ _ h => h) rfl (by kernel_rfl) ⟨_, rfl, rfl, rfl⟩ rfl rfl (Y.sliceH rfl Try.underlying28 I5 rfl rfl (by omega)) (#[true, true, true, true, true, true, true, true, true, true, true, true, true, true, true, true, true, true, true, true, true, true, true, true, true, true, true, true, true, true, true, true, true, true, true, false, false, false, false]) (by kernel_rfl) ?_
    refine GA.read (i := 35) (fun _ _ _ _ _ h => h) rfl (by kernel_rfl) (by kernel_rfl) ⟨_, rfl, rfl, rfl⟩ rfl rfl (Y.bytesStr rightB rfl Try.underlying28 Try.underlying5 Try.underlying9 rfl rfl (by have h := (hrr W0 (sl :: sy :: sx :: (devSeg bc bcl dc :: ([s2] ++ (devSeg bd bl d :: s1 :: []))))).take (n := 5); rw [bytesV_take, show (5 : Nat) = rightB.length from rfl, over_take] at h; exact h)) (#[true, true, true, true, true, true, true, true, true, true, true, true, true, true, true, true, true, true, true, true, true, true, true, true, true, true, true, true, true, true, true, true, true, true, true, true, false, false, false]) (by kernel_rfl) ?_
    refine GA.pure (i := 36) (fun _ _ _ _ _ h => h) rfl (by kernel_rfl) ⟨_, rfl, rfl, rfl⟩ rfl rfl (Y.strEq rfl  rfl rfl) (#[true, true, true, true, true, true, true, true, true, true, true, true, true, true, true, true, true, true, true, true, true, true, true, true, true, true, true, true, true, true, true, true, true, true, true, true, true, false, false]) (by kernel_rfl) ?_
    refine GA.yes (t := 151) rfl rfl ?_
    first | refine GA.pure (i := 37) (fun _ _ _ _ _ h => h) rfl (by kernel_rfl) trivial rfl rfl (Y.pickT rfl rfl rfl) (#[true, true, true, true, true, true, true, true, true, true, true, true, true, true, true, true, true, true, true, true, true, true, true, true, true, true, true, true, true, true, true, true, true, true, true, true, true, true, false]) (by kernel_rfl) ?_ | refine GA.pure (i := 37) (fun _ _ _ _ _ h => h) rfl (by kernel_rfl) trivial rfl rfl (Y.pickF rfl rfl rfl) (#[true, true, true, true, true, true, true, true, true, true, true, true, true, true, true, true, true, true, true, true, true, true, true, true, true, true, true, true, true, true, true, true, true, true, true, true, true, true, false]) (by kernel_rfl) ?_
    refine GA.pure (i := 38) (fun _ _ _ _ _ h => h) rfl (by kernel_rfl) trivial rfl rfl (Y.assignB rfl rfl) (#[true, true, true, true, true, true, true, true, true, true, true, true, true, true, true, true, true, true, true, true, true, true, true, true, true, true, true, true, true, true, true, true, true, true, true, true, true, true, true]) (by kernel_rfl) ?_
    refine GA.done (by kernel_rfl) ?_
    refine C.ret ?_
    -- end g65F
    exact ⟨rfl, _, Res.of (rs := [.tmp 6]) rfl rfl, rfl⟩
theorem two_walk_no (W0 : World) (a0 a1 a2 : Option Addr) (m0 m1 m2 c0 c1 c2 : Nat) (h : ¬ (m0 ≤ 40 ∧ m1 ≤ 40)) :
    FnS Try.prog W0 4 #[.slice a0 m0 c0, .slice a1 m1 c1, .slice a2 m2 c2] [] (fun e _ => e = .returned (.bool true)) := by
  refine FnS.of (args := [.slice a0 m0 c0, .slice a1 m1 c1, .slice a2 m2 c2]) Try.func4 rfl rfl ?_
  refine C.seq ?_
  refine C.region ?_
  refine G.assignB rfl trivial rfl rfl rfl ?_
  refine G.nil ?_
  refine C.seq ?_
  refine C.region ?_
  refine G.call E10 rfl rfl trivial rfl rfl (beganS_spec W0 _) rfl ?_
  rintro e L2 ⟨rfl, rfl⟩
  refine G.assignB rfl trivial rfl rfl rfl ?_
  refine G.nil ?_
  refine C.seq ?_
  refine C.seq ?_
  refine C.region ?_
  refine G.moveB rfl trivial rfl rfl rfl ?_
  first | refine G.notD rfl trivial rfl rfl rfl ?_ | refine G.not rfl trivial rfl rfl rfl ?_
  refine G.nil ?_
  refine C.condF rfl ?_
  refine C.skip ?_
  refine C.seq ?_
  refine C.seq ?_
  refine C.region ?_
  refine G.moveS rfl trivial rfl rfl rfl ?_
  refine G.lenSlice rfl trivial rfl rfl Try.underlying28 rfl ?_
  refine G.bin rfl trivial rfl rfl rfl rfl rfl ?_
  refine G.moveB rfl trivial rfl rfl rfl ?_
  refine G.fork (t := 29) _ rfl ?_ ?_
  · intro hg29
    refine G.skip rfl rfl rfl rfl rfl rfl ?_
    refine G.skip rfl rfl rfl rfl rfl rfl ?_
    refine G.skip rfl rfl rfl rfl rfl rfl ?_
    first | refine G.pickT rfl trivial rfl rfl rfl rfl ?_ | refine G.pickF rfl trivial rfl rfl rfl rfl ?_
    refine G.nil ?_
    refine C.condT rfl ?_
    refine C.seq ?_
    refine C.region ?_
    refine G.assignB rfl trivial rfl rfl rfl ?_
    refine G.nil ?_
    refine C.ret ?_
    -- end g29T
    exact ⟨rfl, _, Res.of (rs := [.tmp 6]) rfl rfl, rfl⟩
  · intro hg29
    refine G.moveS rfl ⟨_, rfl, rfl, rfl⟩ rfl rfl rfl ?_
    refine G.lenSlice rfl ⟨_, rfl, rfl, rfl⟩ rfl rfl Try.underlying28 rfl ?_
    refine G.bin rfl ⟨_, rfl, rfl, rfl⟩ rfl rfl rfl rfl rfl ?_
    first | refine G.pickT rfl trivial rfl rfl rfl rfl ?_ | refine G.pickF rfl trivial rfl rfl rfl rfl ?_
    refine G.nil ?_
    refine C.cond _ rfl ?_ ?_
    · intro hc1
      refine C.seq ?_
      refine C.region ?_
      refine G.assignB rfl trivial rfl rfl rfl ?_
      refine G.nil ?_
      refine C.ret ?_
      -- end g29Fc1T
      exact ⟨rfl, _, Res.of (rs := [.tmp 6]) rfl rfl, rfl⟩
    · intro hc1
      omega
end Go.Proofs.Ytmfaoeeddafcfaa
