/-
  The laws of crc, walked: each comes to true at whatever texts come in.
-/
import Derived.Test.YtajkjagckiekfaaCrcP
import Derived.Test.YtajkjagckiekfaaSL6
namespace Go.Proofs.Ytajkjagckiekfaa
open Go Go.SL Go.RowKit

theorem nine : (((moreS 0#32 [49, 50, 51, 52, 53, 54, 55, 56, 57]).toNat : Int) = 3421780262) := by kernel_rfl
theorem begun_spec (W0 : World) (L : List Seg) : FnS Try.prog W0 7 #[] L (fun e L' => L' = L ∧ e = .returned (.bool true)) := by
  refine FnS.of (args := []) Try.func7 rfl rfl ?_
  refine C.seq ?_
  refine C.region ?_
  refine G.assignB rfl trivial rfl rfl rfl ?_
  refine G.nil ?_
  refine C.seq ?_
  refine C.region ?_
  refine G.buildSlice (cs := [.int .u8 49, .int .u8 50, .int .u8 51, .int .u8 52, .int .u8 53, .int .u8 54, .int .u8 55, .int .u8 56, .int .u8 57]) rfl trivial rfl rfl Try.underlying22 I5 rfl (by kernel_rfl) ?_
  intro b1
  refine G.convSame (by first | exact .here | exact .next .here | exact .next (.next .here) | exact .next (.next (.next .here)) | exact .next (.next (.next (.next .here))) | exact .next (.next (.next (.next (.next .here)))) | exact .in1 | exact .next .in1 | exact .next (.next .in1) | exact .next (.next (.next .in1)) | exact .next (.next (.next (.next .in1))) | exact .in2 | exact .next .in2) rfl rfl trivial rfl rfl Try.underlying22 Try.underlying5 rfl ?_
  refine G.call E9 rfl rfl trivial rfl rfl (sum_spec W0 _ _ _ [49, 50, 51, 52, 53, 54, 55, 56, 57] rfl (by decide) (Rd.row0 (cs := bytesV [49, 50, 51, 52, 53, 54, 55, 56, 57]) At.here)) rfl ?_
  rintro e L2 ⟨rfl, rfl⟩
  refine G.bin rfl trivial rfl rfl rfl rfl rfl ?_
  refine G.moveB rfl trivial rfl rfl rfl ?_
  refine G.yes (t := 5) rfl nine ?_
  refine G.call E9 rfl rfl ⟨_, rfl, rfl, rfl⟩ rfl rfl (sum_spec W0 _ none 0 [] rfl (by decide) Rd.nil) rfl ?_
  rintro e L2 ⟨rfl, rfl⟩
  refine G.bin rfl ⟨_, rfl, rfl, rfl⟩ rfl rfl rfl rfl rfl ?_
  refine G.yes (t := 7) rfl rfl ?_
  first | refine G.pickT rfl trivial rfl rfl rfl rfl ?_ | refine G.pickF rfl trivial rfl rfl rfl rfl ?_
  refine G.assignB rfl trivial rfl rfl rfl ?_
  refine G.nil ?_
  refine C.less (fun _ h => h.tail) ?_
  refine C.ret ?_
  -- end 
  exact ⟨rfl, _, Res.of (rs := [.tmp 0]) rfl rfl, rfl, rfl⟩

theorem crcAll_walk (W0 : World) (a0 a1 : Option Addr) (c0 c1 : Nat) (xs ys : List UInt8) (h0 : xs.length ≤ c0) (h1 : ys.length ≤ c1) (r0 : ∀ L, Rd W0 L a0 (bytesV xs)) (r1 : ∀ L, Rd W0 L a1 (bytesV ys)) :
    FnS Try.prog W0 3 #[.slice a0 xs.length c0, .slice a1 ys.length c1] [] (fun e _ => e = .returned (.bool true)) := by
  have hx : (xs.take 300).length ≤ 300 := by simp; omega
  have hy : (ys.take 300).length ≤ 300 := by simp; omega
  have q0 : ∀ L, Rd W0 L a0 (bytesV (xs.take 300)) := fun L => by rw [← bytesV_take]; exact (r0 L).take
  have q1 : ∀ L, Rd W0 L a1 (bytesV (ys.take 300)) := fun L => by rw [← bytesV_take]; exact (r1 L).take
  refine FnS.of (args := [.slice a0 xs.length c0, .slice a1 ys.length c1]) Try.func3 rfl rfl ?_
  refine C.seq ?_
  refine C.region ?_
  refine G.assignB rfl trivial rfl rfl rfl ?_
  refine G.nil ?_
  refine C.seq ?_
  refine C.region ?_
  refine G.call E7 rfl rfl trivial rfl rfl (begun_spec W0 []) rfl ?_
  rintro e L2 ⟨rfl, rfl⟩
  refine G.assignB rfl trivial rfl rfl rfl ?_
  refine G.nil ?_
  refine C.seq ?_
  refine C.seq ?_
  refine C.region ?_
  refine G.moveB rfl trivial rfl rfl rfl ?_
  first | refine G.notD rfl trivial rfl rfl rfl ?_ | refine G.not rfl trivial rfl rfl rfl ?_
  refine G.nil ?_
  refine C.condF rfl ?_
  refine C.skip ?_
  refine C.seq ?_
  refine C.region ?_
  refine G.moveS rfl trivial rfl rfl rfl ?_
  refine G.call E8 rfl rfl trivial rfl rfl (short_spec W0 [] a0 c0 xs 300 rfl h0) rfl ?_
  rintro e L2 ⟨rfl, rfl⟩
  refine G.moveS rfl trivial rfl rfl rfl ?_
  refine G.call E8 rfl rfl trivial rfl rfl (short_spec W0 [] a1 c1 ys 300 rfl h1) rfl ?_
  rintro e L2 ⟨rfl, rfl⟩
  generalize xs.take 300 = x at *
  generalize ys.take 300 = y at *
  refine G.assignS rfl trivial rfl rfl rfl ?_
  refine G.assignS rfl trivial rfl rfl rfl ?_
  refine G.nil ?_
  refine C.seq ?_
  refine C.region ?_
  refine G.moveS rfl trivial rfl rfl rfl ?_
  refine G.appendNil rfl trivial rfl rfl Try.underlying22 Try.underlying22 I5 rfl (by decide) rfl (by decide) (q0 _) (by simp) bytesV_ok (by omega) ?_
  intro v s hv
  refine G.moveS rfl trivial rfl rfl rfl ?_
  refine G.append hv rfl trivial rfl rfl Try.underlying22 Try.underlying22 I5 rfl (by decide) rfl rfl (by decide) (q1 _) (by simp) bytesV_ok (by omega) ?_
  intro v s hv
  rw [← bytesV_append] at hv
  obtain ⟨a, c, rfl, hrd⟩ := hv.form
  refine G.assignS rfl trivial rfl rfl rfl ?_
  refine G.nil ?_
  refine C.seq ?_
  refine C.region ?_
  refine G.moveS rfl trivial rfl rfl rfl ?_
  refine G.call E9 rfl rfl trivial rfl rfl (sum_spec W0 _ a c (x ++ y) (by simp) (by simp; omega) (hrd W0 _)) rfl ?_
  rintro e L2 ⟨rfl, rfl⟩
  refine G.moveS rfl trivial rfl rfl rfl ?_
  refine G.call E10 rfl rfl trivial rfl rfl (ref_spec W0 _ a c (x ++ y) (by simp) (by simp; omega) (hrd W0 _)) rfl ?_
  rintro e L2 ⟨rfl, rfl⟩
  refine G.bin rfl trivial rfl rfl rfl rfl rfl ?_
  refine G.moveB rfl trivial rfl rfl rfl ?_
  refine G.yes (t := 23) rfl rfl ?_
  refine G.moveS rfl ⟨_, rfl, rfl, rfl⟩ rfl rfl rfl ?_
  refine G.call E9 rfl rfl ⟨_, rfl, rfl, rfl⟩ rfl rfl (sum_spec W0 _ a0 c0 x rfl (by omega) (q0 _)) rfl ?_
  rintro e L2 ⟨rfl, rfl⟩
  refine G.moveS rfl ⟨_, rfl, rfl, rfl⟩ rfl rfl rfl ?_
  refine G.call E11 rfl rfl ⟨_, rfl, rfl, rfl⟩ rfl rfl (more_spec W0 _ (moreS 0#32 x) a1 c1 y rfl (by omega) (q1 _)) rfl ?_
  rintro e L2 ⟨rfl, rfl⟩
  refine G.moveS rfl ⟨_, rfl, rfl, rfl⟩ rfl rfl rfl ?_
  refine G.call E9 rfl rfl ⟨_, rfl, rfl, rfl⟩ rfl rfl (sum_spec W0 _ a c (x ++ y) (by simp) (by simp; omega) (hrd W0 _)) rfl ?_
  rintro e L2 ⟨rfl, rfl⟩
  refine G.bin rfl ⟨_, rfl, rfl, rfl⟩ rfl rfl rfl rfl rfl ?_
  refine G.yes (t := 30) rfl (by rw [moreS_append]) ?_
  first | refine G.pickT rfl trivial rfl rfl rfl rfl ?_ | refine G.pickF rfl trivial rfl rfl rfl rfl ?_
  refine G.assignB rfl trivial rfl rfl rfl ?_
  refine G.nil ?_
  refine C.ret ?_
  -- end 
  exact ⟨rfl, _, Res.of (rs := [.tmp 4]) rfl rfl, rfl⟩

theorem xor8 (x y : UInt8) : Value.int .u8 (IntKind.u8.wrap ((BitVec.ofInt IntKind.u8.bits (x.toNat : Int) ^^^ BitVec.ofInt IntKind.u8.bits (y.toNat : Int)).toNat : Int)) = .int .u8 ((x ^^^ y).toNat : Int) := by
  have h := (x ^^^ y).toNat_lt
  have hx := x.toNat_lt
  have hy := y.toNat_lt
  have e : (BitVec.ofInt 8 (x.toNat : Int) ^^^ BitVec.ofInt 8 (y.toNat : Int)).toNat = (x ^^^ y).toNat := by
    rw [BitVec.toNat_xor, UInt8.toNat_xor, BitVec.ofInt_natCast, BitVec.ofInt_natCast, BitVec.toNat_ofNat, BitVec.toNat_ofNat, Nat.mod_eq_of_lt hx, Nat.mod_eq_of_lt hy]
  show Value.int .u8 (IntKind.u8.wrap ((BitVec.ofInt 8 (x.toNat : Int) ^^^ BitVec.ofInt 8 (y.toNat : Int)).toNat : Int)) = _
  rw [e, wrap_in .u8]
  have h1 : IntKind.u8.min = 0 := by decide
  have h2 : IntKind.u8.max = 255 := by decide
  omega
/-- three lists side by side, written one by one -/
theorem set_step {X : List UInt8} {i n : Nat} (hX : X.length = n) (hi : i < n) : (bytesV (X.take i ++ List.replicate (n - i) 0)).set (0 + (i : Int).toNat * 1) (.int .u8 (X[i].toNat : Int)) = bytesV (X.take (i + 1) ++ List.replicate (n - (i + 1)) 0) := by
  have e : n - i = (n - (i + 1)) + 1 := by omega
  have hl : (bytesV (X.take i)).length = i := by simp; omega
  have e0 : 0 + (i : Int).toNat * 1 = i := by simp
  rw [e0, e, List.replicate_succ, bytesV_append, List.set_append_right _ _ (by omega), hl, Nat.sub_self, take_snoc (by omega), List.append_assoc, bytesV_append]
  rfl
theorem min_i64 (a b : Nat) : (if (b : Int) < (a : Int) then (b : Int) else (a : Int)) = ((min a b : Nat) : Int) := by split <;> omega
theorem crcThree_walk (W0 : World) (a0 a1 a2 : Option Addr) (c0 c1 c2 : Nat) (xs ys zs : List UInt8) (h0 : xs.length ≤ c0) (h1 : ys.length ≤ c1) (h2 : zs.length ≤ c2) (r0 : ∀ L, Rd W0 L a0 (bytesV xs)) (r1 : ∀ L, Rd W0 L a1 (bytesV ys)) (r2 : ∀ L, Rd W0 L a2 (bytesV zs)) :
    FnS Try.prog W0 5 #[.slice a0 xs.length c0, .slice a1 ys.length c1, .slice a2 zs.length c2] [] (fun e _ => e = .returned (.bool true)) := by
  obtain ⟨n, hn⟩ : ∃ n, n = min (min xs.length 100) (min ys.length zs.length) := ⟨_, rfl⟩
  have n1 : n ≤ xs.length := by omega
  have n2 : n ≤ ys.length := by omega
  have n3 : n ≤ zs.length := by omega
  have n4 : n ≤ 100 := by omega
  obtain ⟨X, hX⟩ : ∃ X, X = List.zipWith (· ^^^ ·) (List.zipWith (· ^^^ ·) (xs.take n) (ys.take n)) (zs.take n) := ⟨_, rfl⟩
  have hXl : X.length = n := by subst hX; simp; omega
  have hXi : ∀ i (h : i < n), xs[i] ^^^ ys[i] ^^^ zs[i] = X[i] := by intro i h; subst hX; simp
  have q0 : ∀ L, Rd W0 L a0 (bytesV (xs.take n)) := fun L => by rw [← bytesV_take]; exact (r0 L).take
  have q1 : ∀ L, Rd W0 L a1 (bytesV (ys.take n)) := fun L => by rw [← bytesV_take]; exact (r1 L).take
  have q2 : ∀ L, Rd W0 L a2 (bytesV (zs.take n)) := fun L => by rw [← bytesV_take]; exact (r2 L).take
  have hthree := three (xs.take n) (ys.take n) (zs.take n) (by simp; omega) (by simp; omega)
  rw [← hX] at hthree
  refine FnS.of (args := [.slice a0 xs.length c0, .slice a1 ys.length c1, .slice a2 zs.length c2]) Try.func5 rfl rfl ?_
  refine C.seq ?_
  refine C.region ?_
  refine G.assignB rfl trivial rfl rfl rfl ?_
  refine G.nil ?_
  refine C.seq ?_
  refine C.region ?_
  refine G.call E7 rfl rfl trivial rfl rfl (begun_spec W0 []) rfl ?_
  rintro e L2 ⟨rfl, rfl⟩
  refine G.assignB rfl trivial rfl rfl rfl ?_
  refine G.nil ?_
  refine C.seq ?_
  refine C.seq ?_
  refine C.region ?_
  refine G.moveB rfl trivial rfl rfl rfl ?_
  first | refine G.notD rfl trivial rfl rfl rfl ?_ | refine G.not rfl trivial rfl rfl rfl ?_
  refine G.nil ?_
  refine C.condF rfl ?_
  refine C.skip ?_
  refine C.seq ?_
  refine C.region ?_
  refine G.moveS rfl trivial rfl rfl rfl ?_
  refine G.lenSlice rfl trivial rfl rfl Try.underlying22 rfl ?_
  refine G.min2 rfl trivial rfl rfl rfl rfl ?_
  refine G.moveS rfl trivial rfl rfl rfl ?_
  refine G.lenSlice rfl trivial rfl rfl Try.underlying22 rfl ?_
  refine G.moveS rfl trivial rfl rfl rfl ?_
  refine G.lenSlice rfl trivial rfl rfl Try.underlying22 rfl ?_
  refine G.min2 rfl trivial rfl rfl rfl rfl ?_
  refine G.min2 rfl trivial rfl rfl rfl rfl ?_
  refine G.fix (d := 22) (v := .int .i64 (n : Int)) (by show Value.int .i64 _ = _; congr 1; rw [hn]; repeat' split <;> omega) ?_
  refine G.assignI rfl trivial rfl rfl rfl ?_
  refine G.nil ?_
  refine C.seq ?_
  refine C.region ?_
  refine G.moveI rfl trivial rfl rfl rfl ?_
  refine G.makeBytes rfl trivial rfl rfl Try.underlying22 I5 rfl rfl (by omega) ?_
  intro b24
  refine G.assignS rfl trivial rfl rfl rfl ?_
  refine G.nil ?_
  refine C.seq ?_
  refine C.seq ?_
  refine C.region ?_
  refine G.assignI rfl trivial rfl rfl rfl ?_
  refine G.nil ?_
  refine C.block ?_
  refine C.loop (fun m F D' L' => ∃ i : Nat, i ≤ n ∧ m = n - i ∧ F 10 = .int .i64 i ∧ F 8 = .int .i64 n ∧ F 9 = .slice (some ⟨b24, 0, none⟩) n n ∧ F 0 = .slice a0 xs.length c0 ∧ F 1 = .slice a1 ys.length c1 ∧ F 2 = .slice a2 zs.length c2 ∧ D' = [] ∧ [[(b24, .row (bytesV (X.take i ++ List.replicate (n - i) 0)) 5 n)]] = L') ⟨_, ⟨0, by omega, rfl, rfl, rfl, rfl, rfl, rfl, rfl, rfl, rfl⟩⟩ ?_
  rintro m F D' L' ⟨i, hi, rfl, h10, h8, h9, h0', h1', h2', rfl, rfl⟩
  refine C.fix (d := 10) h10 ?_
  refine C.fix (d := 8) h8 ?_
  refine C.fix (d := 9) h9 ?_
  refine C.fix (d := 0) h0' ?_
  refine C.fix (d := 1) h1' ?_
  refine C.fix (d := 2) h2' ?_
  refine C.seq ?_
  refine C.seq ?_
  refine C.region ?_
  refine G.moveI rfl trivial rfl rfl rfl ?_
  refine G.moveI rfl trivial rfl rfl rfl ?_
  refine G.bin rfl trivial rfl rfl rfl rfl rfl ?_
  refine G.nil ?_
  refine C.cond _ rfl ?_ ?_
  · intro hc1
    have hlt : i < n := by omega
    obtain ⟨p0, o0, rfl, d0⟩ := (r0 [[(b24, .row (bytesV (X.take i ++ List.replicate (n - i) 0)) 5 n)]]).some_ (by simp; omega)
    obtain ⟨p1, o1, rfl, d1⟩ := (r1 [[(b24, .row (bytesV (X.take i ++ List.replicate (n - i) 0)) 5 n)]]).some_ (by simp; omega)
    obtain ⟨p2, o2, rfl, d2⟩ := (r2 [[(b24, .row (bytesV (X.take i ++ List.replicate (n - i) 0)) 5 n)]]).some_ (by simp; omega)
    refine C.skip ?_
    refine C.seq ?_
    refine C.block ?_
    refine C.drawn mixed (_) [17] (fun _ h => h) ?_
    refine GA.pure (i := 0) (fun _ _ _ _ _ h => h) rfl (by kernel_rfl) trivial rfl rfl (Y.moveS rfl rfl) (#[true, false, false, false, false, false, false, false, false, false, false, false, false, false, false, false, false, false]) (by kernel_rfl) ?_
    refine GA.pure (i := 1) (fun _ _ _ _ _ h => h) rfl (by kernel_rfl) trivial rfl rfl (Y.moveI rfl rfl) (#[true, true, false, false, false, false, false, false, false, false, false, false, false, false, false, false, false, false]) (by kernel_rfl) ?_
    refine GA.pure (i := 2) (fun _ _ _ _ _ h => h) rfl (by kernel_rfl) trivial rfl rfl (Y.moveS rfl rfl) (#[true, true, true, false, false, false, false, false, false, false, false, false, false, false, false, false, false, false]) (by kernel_rfl) ?_
    refine GA.pure (i := 3) (fun _ _ _ _ _ h => h) rfl (by kernel_rfl) trivial rfl rfl (Y.moveI rfl rfl) (#[true, true, true, true, false, false, false, false, false, false, false, false, false, false, false, false, false, false]) (by kernel_rfl) ?_
    refine GA.pure (i := 4) (fun _ _ _ _ _ h => h) rfl (by kernel_rfl) trivial rfl rfl (Y.indexAddr rfl Try.underlying22 I5 rfl rfl (by omega)) (#[true, true, true, true, true, false, false, false, false, false, false, false, false, false, false, false, false, false]) (by kernel_rfl) ?_
    refine GA.read (i := 5) (fun _ _ _ _ _ h => h) rfl (by kernel_rfl) (by kernel_rfl) trivial rfl rfl (Y.load (v := .int .u8 (xs[i].toNat : Int)) rfl Try.underlying5 rfl rfl (fun w hm => by rw [← bytesV_at (by omega), ← d0 w hm i (by simp; omega)]; simp)) (#[true, true, true, true, true, true, false, false, false, false, false, false, false, false, false, false, false, false]) (by kernel_rfl) ?_
    refine GA.pure (i := 6) (fun _ _ _ _ _ h => h) rfl (by kernel_rfl) trivial rfl rfl (Y.moveS rfl rfl) (#[true, true, true, true, true, true, true, false, false, false, false, false, false, false, false, false, false, false]) (by kernel_rfl) ?_
    refine GA.pure (i := 7) (fun _ _ _ _ _ h => h) rfl (by kernel_rfl) trivial rfl rfl (Y.moveI rfl rfl) (#[true, true, true, true, true, true, true, true, false, false, false, false, false, false, false, false, false, false]) (by kernel_rfl) ?_
    refine GA.pure (i := 8) (fun _ _ _ _ _ h => h) rfl (by kernel_rfl) trivial rfl rfl (Y.indexAddr rfl Try.underlying22 I5 rfl rfl (by omega)) (#[true, true, true, true, true, true, true, true, true, false, false, false, false, false, false, false, false, false]) (by kernel_rfl) ?_
    refine GA.read (i := 9) (fun _ _ _ _ _ h => h) rfl (by kernel_rfl) (by kernel_rfl) trivial rfl rfl (Y.load (v := .int .u8 (ys[i].toNat : Int)) rfl Try.underlying5 rfl rfl (fun w hm => by rw [← bytesV_at (by omega), ← d1 w hm i (by simp; omega)]; simp)) (#[true, true, true, true, true, true, true, true, true, true, false, false, false, false, false, false, false, false]) (by kernel_rfl) ?_
    refine GA.pure (i := 10) (fun _ _ _ _ _ h => h) rfl (by kernel_rfl) trivial rfl rfl (Y.bin rfl rfl rfl rfl) (#[true, true, true, true, true, true, true, true, true, true, true, false, false, false, false, false, false, false]) (by kernel_rfl) ?_
    refine GA.fix (d := 40) (v := .int .u8 ((xs[i] ^^^ ys[i]).toNat : Int)) (xor8 _ _) ?_
    refine GA.pure (i := 11) (fun _ _ _ _ _ h => h) rfl (by kernel_rfl) trivial rfl rfl (Y.moveS rfl rfl) (#[true, true, true, true, true, true, true, true, true, true, true, true, false, false, false, false, false, false]) (by kernel_rfl) ?_
    refine GA.pure (i := 12) (fun _ _ _ _ _ h => h) rfl (by kernel_rfl) trivial rfl rfl (Y.moveI rfl rfl) (#[true, true, true, true, true, true, true, true, true, true, true, true, true, false, false, false, false, false]) (by kernel_rfl) ?_
    refine GA.pure (i := 13) (fun _ _ _ _ _ h => h) rfl (by kernel_rfl) trivial rfl rfl (Y.indexAddr rfl Try.underlying22 I5 rfl rfl (by omega)) (#[true, true, true, true, true, true, true, true, true, true, true, true, true, true, false, false, false, false]) (by kernel_rfl) ?_
    refine GA.read (i := 14) (fun _ _ _ _ _ h => h) rfl (by kernel_rfl) (by kernel_rfl) trivial rfl rfl (Y.load (v := .int .u8 (zs[i].toNat : Int)) rfl Try.underlying5 rfl rfl (fun w hm => by rw [← bytesV_at (by omega), ← d2 w hm i (by simp; omega)]; simp)) (#[true, true, true, true, true, true, true, true, true, true, true, true, true, true, true, false, false, false]) (by kernel_rfl) ?_
    refine GA.pure (i := 15) (fun _ _ _ _ _ h => h) rfl (by kernel_rfl) trivial rfl rfl (Y.bin rfl rfl rfl rfl) (#[true, true, true, true, true, true, true, true, true, true, true, true, true, true, true, true, false, false]) (by kernel_rfl) ?_
    refine GA.fix (d := 45) (v := .int .u8 (X[i].toNat : Int)) ((xor8 _ _).trans (by rw [hXi i hlt])) ?_
    refine GA.pure (i := 16) (fun _ _ _ _ _ h => h) rfl (by kernel_rfl) trivial rfl rfl (Y.indexAddr rfl Try.underlying22 I5 rfl rfl (by omega)) (#[true, true, true, true, true, true, true, true, true, true, true, true, true, true, true, true, true, false]) (by kernel_rfl) ?_
    refine GA.one (i := 17) rfl (by kernel_rfl) (#[true, true, true, true, true, true, true, true, true, true, true, true, true, true, true, true, true, true]) (by kernel_rfl) ?_
    refine G.store At.here rfl trivial rfl I5 rfl rfl rfl (by simp; omega) _ (set_step hXl hlt) ?_
    refine G.nil ?_
    refine ⟨fun _ h => absurd h (by simp [hit]), ?_⟩
    refine GA.done (by kernel_rfl) ?_
    refine C.region ?_
    refine G.moveI rfl trivial rfl rfl rfl ?_
    refine G.add rfl trivial rfl rfl rfl rfl (by omega) ?_
    refine G.assignI rfl trivial rfl rfl rfl ?_
    refine G.nil ?_
    exact ⟨n - (i + 1), by omega, i + 1, by omega, rfl, rfl, rfl, rfl, rfl, rfl, rfl, rfl, rfl⟩
  · intro hc1
    obtain rfl : i = n := by omega
    rw [show X.take i ++ List.replicate (i - i) 0 = X by rw [← hXl]; simp]
    refine C.exit ?_
    refine C.seq ?_
    refine C.drawn mixed (_) [] (fun _ h => h) ?_
    refine GA.pure (i := 0) (fun _ _ _ _ _ h => h) rfl (by kernel_rfl) trivial rfl rfl (Y.moveS rfl rfl) (#[true, false, false, false, false, false, false, false, false, false, false, false, false, false, false, false, false, false]) (by kernel_rfl) ?_
    refine GA.pure (i := 2) (fun _ _ _ _ _ h => h) rfl (by kernel_rfl) trivial rfl rfl (Y.moveS rfl rfl) (#[true, false, true, false, false, false, false, false, false, false, false, false, false, false, false, false, false, false]) (by kernel_rfl) ?_
    refine GA.pure (i := 3) (fun _ _ _ _ _ h => h) rfl (by kernel_rfl) trivial rfl rfl (Y.moveI rfl rfl) (#[true, false, true, true, false, false, false, false, false, false, false, false, false, false, false, false, false, false]) (by kernel_rfl) ?_
    refine GA.pure (i := 4) (fun _ _ _ _ _ h => h) rfl (by kernel_rfl) trivial rfl rfl (Y.sliceH rfl Try.underlying22 I5 rfl rfl (by omega)) (#[true, false, true, true, true, false, false, false, false, false, false, false, false, false, false, false, false, false]) (by kernel_rfl) ?_
    refine GA.pure (i := 6) (fun _ _ _ _ _ h => h) rfl (by kernel_rfl) trivial rfl rfl (Y.moveS rfl rfl) (#[true, false, true, true, true, false, true, false, false, false, false, false, false, false, false, false, false, false]) (by kernel_rfl) ?_
    refine GA.pure (i := 7) (fun _ _ _ _ _ h => h) rfl (by kernel_rfl) trivial rfl rfl (Y.moveI rfl rfl) (#[true, false, true, true, true, false, true, true, false, false, false, false, false, false, false, false, false, false]) (by kernel_rfl) ?_
    refine GA.pure (i := 8) (fun _ _ _ _ _ h => h) rfl (by kernel_rfl) trivial rfl rfl (Y.sliceH rfl Try.underlying22 I5 rfl rfl (by omega)) (#[true, false, true, true, true, false, true, true, true, false, false, false, false, false, false, false, false, false]) (by kernel_rfl) ?_
    refine GA.pure (i := 11) (fun _ _ _ _ _ h => h) rfl (by kernel_rfl) trivial rfl rfl (Y.moveS rfl rfl) (#[true, false, true, true, true, false, true, true, true, false, false, true, false, false, false, false, false, false]) (by kernel_rfl) ?_
    refine GA.pure (i := 12) (fun _ _ _ _ _ h => h) rfl (by kernel_rfl) trivial rfl rfl (Y.moveI rfl rfl) (#[true, false, true, true, true, false, true, true, true, false, false, true, true, false, false, false, false, false]) (by kernel_rfl) ?_
    refine GA.pure (i := 13) (fun _ _ _ _ _ h => h) rfl (by kernel_rfl) trivial rfl rfl (Y.sliceH rfl Try.underlying22 I5 rfl rfl (by omega)) (#[true, false, true, true, true, false, true, true, true, false, false, true, true, true, false, false, false, false]) (by kernel_rfl) ?_
    refine GA.one (i := 1) rfl (by kernel_rfl) (#[true, true, true, true, true, false, true, true, true, false, false, true, true, true, false, false, false, false]) (by kernel_rfl) ?_
    refine G.call E9 rfl rfl trivial rfl rfl (sum_spec W0 _ (some ⟨b24, 0, none⟩) i X hXl.symm (by omega) (Rd.row0 At.here)) rfl ?_
    rintro e L2 ⟨rfl, rfl⟩
    refine G.nil ?_
    refine ⟨fun _ _ h => h, ?_⟩
    refine GA.one (i := 5) rfl (by kernel_rfl) (#[true, true, true, true, true, true, true, true, true, false, false, true, true, true, false, false, false, false]) (by kernel_rfl) ?_
    refine G.call E9 rfl rfl trivial rfl rfl (sum_spec W0 _ a0 c0 (xs.take i) (by simp; omega) (by simp; omega) (q0 _)) rfl ?_
    rintro e L2 ⟨rfl, rfl⟩
    refine G.nil ?_
    refine ⟨fun _ _ h => h, ?_⟩
    refine GA.one (i := 9) rfl (by kernel_rfl) (#[true, true, true, true, true, true, true, true, true, true, false, true, true, true, false, false, false, false]) (by kernel_rfl) ?_
    refine G.call E9 rfl rfl trivial rfl rfl (sum_spec W0 _ a1 c1 (ys.take i) (by simp; omega) (by simp; omega) (q1 _)) rfl ?_
    rintro e L2 ⟨rfl, rfl⟩
    refine G.nil ?_
    refine ⟨fun _ _ h => h, ?_⟩
    refine GA.pure (i := 10) (fun _ _ _ _ _ h => h) rfl (by kernel_rfl) trivial rfl rfl (Y.bin rfl rfl rfl rfl) (#[true, true, true, true, true, true, true, true, true, true, true, true, true, true, false, false, false, false]) (by kernel_rfl) ?_
    refine GA.fix (d := 57) (v := .int .u32 ((moreS 0#32 (xs.take i) ^^^ moreS 0#32 (ys.take i)).toNat)) (xor32 _ _) ?_
    refine GA.one (i := 14) rfl (by kernel_rfl) (#[true, true, true, true, true, true, true, true, true, true, true, true, true, true, true, false, false, false]) (by kernel_rfl) ?_
    refine G.call E9 rfl rfl trivial rfl rfl (sum_spec W0 _ a2 c2 (zs.take i) (by simp; omega) (by simp; omega) (q2 _)) rfl ?_
    rintro e L2 ⟨rfl, rfl⟩
    refine G.nil ?_
    refine ⟨fun _ _ h => h, ?_⟩
    refine GA.pure (i := 15) (fun _ _ _ _ _ h => h) rfl (by kernel_rfl) trivial rfl rfl (Y.bin rfl rfl rfl rfl) (#[true, true, true, true, true, true, true, true, true, true, true, true, true, true, true, true, false, false]) (by kernel_rfl) ?_
    refine GA.fix (d := 62) (v := .int .u32 ((moreS 0#32 X).toNat)) ((xor32 _ _).trans (by rw [hthree])) ?_
    refine GA.pure (i := 16) (fun _ _ _ _ _ h => h) rfl (by kernel_rfl) trivial rfl rfl (Y.bin rfl rfl rfl rfl) (#[true, true, true, true, true, true, true, true, true, true, true, true, true, true, true, true, true, false]) (by kernel_rfl) ?_
    refine GA.yes (t := 63) rfl rfl ?_
    refine GA.pure (i := 17) (fun _ _ _ _ _ h => h) rfl (by kernel_rfl) trivial rfl rfl (Y.assignB rfl rfl) (#[true, true, true, true, true, true, true, true, true, true, true, true, true, true, true, true, true, true]) (by kernel_rfl) ?_
    refine GA.done (by kernel_rfl) ?_
    refine C.ret ?_
    -- end c1F
    exact ⟨rfl, _, Res.of (rs := [.tmp 6]) rfl rfl, rfl⟩

theorem tmod_gt (z : Int) : -40 < z.tmod 40 := by
  rcases Int.le_total 0 z with h | h
  · rw [Int.tmod_eq_emod_of_nonneg h]; omega
  · have e : z.tmod 40 = -((-z).tmod 40) := by rw [Int.neg_tmod, Int.neg_neg]
    have h2 := Int.tmod_lt_of_pos (-z) (show (0 : Int) < 40 by decide)
    omega
theorem mod40 (z : Int) : ∃ k : Nat, k < 40 ∧ ((z.tmod 40) + 40).tmod 40 = k := by
  have h := Int.tmod_lt_of_pos z (show (0 : Int) < 40 by decide)
  have h2 := tmod_gt z
  rw [Int.tmod_eq_emod_of_nonneg (by omega)]
  exact ⟨((z.tmod 40 + 40) % 40).toNat, by omega, by omega⟩
theorem cut_len (xs : List UInt8) (at_ k : Nat) (h : at_ + k ≤ xs.length) : ((xs.drop at_).take k).length = k := by simp; omega
theorem crcMany_walk (W0 : World) (a0 a1 : Option Addr) (c0 c1 : Nat) (xs0 : List UInt8) (zs : List Int) (h0 : xs0.length ≤ c0) (h1 : zs.length ≤ c1) (hz : zs.length ≤ 9223372036854775807) (hzb : ∀ n ∈ zs, -9223372036854775808 ≤ n ∧ n ≤ 9223372036854775807)
    (r0 : ∀ L, Rd W0 L a0 (bytesV xs0)) (r1 : ∀ L, Rd W0 L a1 (zs.map (Value.int .i64))) :
    FnS Try.prog W0 6 #[.slice a0 xs0.length c0, .slice a1 zs.length c1] [] (fun e _ => e = .returned (.bool true)) := by
  have hx : (xs0.take 300).length ≤ 300 := by simp; omega
  have hxc : (xs0.take 300).length ≤ c0 := by simp; omega
  have q0 : ∀ L, Rd W0 L a0 (bytesV (xs0.take 300)) := fun L => by rw [← bytesV_take]; exact (r0 L).take
  refine FnS.of (args := [.slice a0 xs0.length c0, .slice a1 zs.length c1]) Try.func6 rfl rfl ?_
  refine C.seq ?_
  refine C.region ?_
  refine G.assignB rfl trivial rfl rfl rfl ?_
  refine G.nil ?_
  refine C.seq ?_
  refine C.region ?_
  refine G.call E7 rfl rfl trivial rfl rfl (begun_spec W0 []) rfl ?_
  rintro e L2 ⟨rfl, rfl⟩
  refine G.assignB rfl trivial rfl rfl rfl ?_
  refine G.nil ?_
  refine C.seq ?_
  refine C.seq ?_
  refine C.region ?_
  refine G.moveB rfl trivial rfl rfl rfl ?_
  first | refine G.notD rfl trivial rfl rfl rfl ?_ | refine G.not rfl trivial rfl rfl rfl ?_
  refine G.nil ?_
  refine C.condF rfl ?_
  refine C.skip ?_
  refine C.seq ?_
  refine C.region ?_
  refine G.moveS rfl trivial rfl rfl rfl ?_
  refine G.call E8 rfl rfl trivial rfl rfl (short_spec W0 [] a0 c0 xs0 300 rfl h0) rfl ?_
  rintro e L2 ⟨rfl, rfl⟩
  generalize xs0.take 300 = xs at *
  refine G.assignS rfl trivial rfl rfl rfl ?_
  refine G.nil ?_
  refine C.seq ?_
  refine C.region ?_
  refine G.assignI rfl trivial rfl rfl rfl ?_
  refine G.nil ?_
  refine C.seq ?_
  refine C.region ?_
  refine G.assignI rfl trivial rfl rfl rfl ?_
  refine G.nil ?_
  refine C.seq ?_
  refine C.seq ?_
  refine C.region ?_
  refine G.assignI rfl trivial rfl rfl rfl ?_
  refine G.nil ?_
  refine C.block ?_
  refine C.loop (fun m F D' L' => ∃ i p : Nat, i ≤ zs.length ∧ p ≤ xs.length ∧ m = zs.length - i ∧ F 8 = .int .i64 i ∧ F 7 = .int .i64 p ∧ F 6 = .int .u32 (moreS 0#32 (xs.take p)).toNat ∧ F 0 = .slice a0 xs.length c0 ∧ F 1 = .slice a1 zs.length c1 ∧ D' = [] ∧ [] = L') ⟨_, ⟨0, 0, by omega, by omega, rfl, rfl, rfl, by rw [List.take_zero, moreS_nil]; rfl, rfl, rfl, rfl, rfl⟩⟩ ?_
  rintro m F D' L' ⟨i, p, hi, hp, rfl, h8, h7, h6, h0', h1', rfl, rfl⟩
  refine C.fix (d := 8) h8 ?_
  refine C.fix (d := 7) h7 ?_
  refine C.fix (d := 6) h6 ?_
  refine C.fix (d := 0) h0' ?_
  refine C.fix (d := 1) h1' ?_
  refine C.seq ?_
  refine C.seq ?_
  refine C.region ?_
  refine G.moveI rfl trivial rfl rfl rfl ?_
  refine G.moveS rfl trivial rfl rfl rfl ?_
  refine G.lenSlice rfl trivial rfl rfl Try.underlying31 rfl ?_
  refine G.bin rfl trivial rfl rfl rfl rfl rfl ?_
  refine G.moveB rfl trivial rfl rfl rfl ?_
  refine G.fork (t := 19) _ rfl ?_ ?_
  · intro hg19
    refine G.moveI rfl ⟨_, rfl, rfl, rfl⟩ rfl rfl rfl ?_
    refine G.bin rfl ⟨_, rfl, rfl, rfl⟩ rfl rfl rfl rfl rfl ?_
    first | refine G.pickT rfl trivial rfl rfl rfl rfl ?_ | refine G.pickF rfl trivial rfl rfl rfl rfl ?_
    refine G.nil ?_
    refine C.cond _ rfl ?_ ?_
    · intro hc1
      have hlt : i < zs.length := by omega
      obtain ⟨b1, o1, rfl, d1⟩ := (r1 []).some_ (by simp; omega)
      obtain ⟨k, hk, hk2⟩ := mod40 zs[i]
      have hzi := hzb zs[i] (List.getElem_mem _)
      have ht1 := Int.tmod_lt_of_pos zs[i] (show (0 : Int) < 40 by decide)
      have ht2 := tmod_gt zs[i]
      refine C.skip ?_
      refine C.seq ?_
      refine C.block ?_
      refine C.seq ?_
      refine C.region ?_
      refine G.moveS rfl trivial rfl rfl rfl ?_
      refine G.lenSlice rfl trivial rfl rfl Try.underlying22 rfl ?_
      refine G.moveI rfl trivial rfl rfl rfl ?_
      refine G.sub rfl trivial rfl rfl rfl rfl (by omega) ?_
      refine G.fix (d := 28) (v := .int .i64 ((xs.length - p : Nat) : Int)) (by show Value.int .i64 _ = _; congr 1; omega) ?_
      refine G.moveS rfl trivial rfl rfl rfl ?_
      refine G.moveI rfl trivial rfl rfl rfl ?_
      refine G.indexAddr rfl trivial rfl rfl Try.underlying31 I3 rfl rfl (by omega) ?_
      refine G.load (v := .int .i64 zs[i]) rfl trivial rfl rfl Try.underlying3 rfl rfl (fun w hm => by have h3 := d1 w hm i (by simpa using hlt); rw [List.getElem?_map, List.getElem?_eq_getElem hlt] at h3; simpa using h3) ?_
      refine G.rem rfl trivial rfl rfl rfl rfl (by omega) ?_
      refine G.add rfl trivial rfl rfl rfl rfl (by omega) ?_
      refine G.rem rfl trivial rfl rfl rfl rfl (by omega) ?_
      refine G.fix (d := 35) (v := .int .i64 (k : Int)) (by show Value.int .i64 _ = _; rw [hk2]) ?_
      refine G.min2 rfl trivial rfl rfl rfl rfl ?_
      refine G.fix (d := 36) (v := .int .i64 ((min (xs.length - p) k : Nat) : Int)) (by show Value.int .i64 _ = _; rw [min_i64]) ?_
      obtain ⟨q, hq⟩ : ∃ q, q = min (xs.length - p) k := ⟨_, rfl⟩
      rw [← hq]
      have hle : p + q ≤ xs.length := by omega
      refine G.assignI rfl trivial rfl rfl rfl ?_
      refine G.nil ?_
      refine C.seq ?_
      refine C.region ?_
      refine G.moveI rfl trivial rfl rfl rfl ?_
      refine G.moveS rfl trivial rfl rfl rfl ?_
      refine G.moveI rfl trivial rfl rfl rfl ?_
      refine G.moveI rfl trivial rfl rfl rfl ?_
      refine G.moveI rfl trivial rfl rfl rfl ?_
      refine G.add rfl trivial rfl rfl rfl rfl (by omega) ?_
      refine G.sliceLH rfl trivial rfl rfl Try.underlying22 I5 rfl rfl rfl (by omega) ?_
      refine G.call E11 rfl rfl trivial rfl rfl (more_spec W0 _ (moreS 0#32 (xs.take p)) _ _ ((xs.drop p).take q) (by rw [cut_len _ _ _ hle]; omega) (by rw [cut_len _ _ _ hle]; omega) (by rw [← bytesV_take, ← bytesV_drop]; have := ((q0 []).cut (n := xs.length) (cap := c0) (l := p) (sz := 1) (by simp) hxc).take (n := q); simpa using this)) rfl ?_
      rintro e L2 ⟨rfl, rfl⟩
      rw [moreS_append, show xs.take p ++ (xs.drop p).take q = xs.take (p + q) from List.take_add.symm]
      refine G.assignI rfl trivial rfl rfl rfl ?_
      refine G.nil ?_
      refine C.seq ?_
      refine C.region ?_
      refine G.moveI rfl trivial rfl rfl rfl ?_
      refine G.moveI rfl trivial rfl rfl rfl ?_
      refine G.add rfl trivial rfl rfl rfl rfl (by omega) ?_
      refine G.assignI rfl trivial rfl rfl rfl ?_
      refine G.nil ?_
      refine C.seq ?_
      refine C.region ?_
      refine G.moveI rfl trivial rfl rfl rfl ?_
      refine G.moveS rfl trivial rfl rfl rfl ?_
      refine G.moveI rfl trivial rfl rfl rfl ?_
      refine G.sliceH rfl trivial rfl rfl Try.underlying22 I5 rfl rfl (by omega) ?_
      refine G.call E9 rfl rfl trivial rfl rfl (sum_spec W0 _ a0 c0 (xs.take (p + q)) (by simp; omega) (by simp; omega) (by rw [← bytesV_take]; exact (q0 _).take)) rfl ?_
      rintro e L2 ⟨rfl, rfl⟩
      refine G.bin rfl trivial rfl rfl rfl rfl rfl ?_
      refine G.nil ?_
      refine C.no rfl (by simp) ?_
      refine C.skip ?_
      refine C.region ?_
      refine G.moveI rfl trivial rfl rfl rfl ?_
      refine G.add rfl trivial rfl rfl rfl rfl (by omega) ?_
      refine G.assignI rfl trivial rfl rfl rfl ?_
      refine G.nil ?_
      exact ⟨zs.length - (i + 1), by omega, i + 1, _, by omega, hle, rfl, rfl, rfl, rfl, rfl, rfl, rfl, rfl⟩
    · intro hc1
      refine C.exit ?_
      refine C.seq ?_
      refine C.region ?_
      refine G.moveI rfl trivial rfl rfl rfl ?_
      refine G.moveS rfl trivial rfl rfl rfl ?_
      refine G.moveI rfl trivial rfl rfl rfl ?_
      refine G.sliceL rfl trivial rfl rfl Try.underlying22 I5 rfl rfl (by omega) ?_
      refine G.call E11 rfl rfl trivial rfl rfl (more_spec W0 _ (moreS 0#32 (xs.take p)) _ _ (xs.drop p) (by simp) (by simp; omega) (by rw [← bytesV_drop]; have := (q0 []).cut (n := xs.length) (cap := c0) (l := p) (sz := 1) (by simp) hxc; simpa using this)) rfl ?_
      rintro e L2 ⟨rfl, rfl⟩
      rw [moreS_append, List.take_append_drop]
      refine G.moveS rfl trivial rfl rfl rfl ?_
      refine G.call E9 rfl rfl trivial rfl rfl (sum_spec W0 _ a0 c0 xs rfl (by omega) (q0 _)) rfl ?_
      rintro e L2 ⟨rfl, rfl⟩
      refine G.bin rfl trivial rfl rfl rfl rfl rfl ?_
      refine G.yes (t := 61) rfl rfl ?_
      refine G.assignB rfl trivial rfl rfl rfl ?_
      refine G.nil ?_
      refine C.ret ?_
      -- end g19Tc1F
      exact ⟨rfl, _, Res.of (rs := [.tmp 4]) rfl rfl, rfl⟩
  · intro hg19
    refine G.skip rfl rfl rfl rfl rfl rfl ?_
    refine G.skip rfl rfl rfl rfl rfl rfl ?_
    first | refine G.pickT rfl trivial rfl rfl rfl rfl ?_ | refine G.pickF rfl trivial rfl rfl rfl rfl ?_
    refine G.nil ?_
    refine C.condF rfl ?_
    refine C.exit ?_
    refine C.seq ?_
    refine C.region ?_
    refine G.moveI rfl trivial rfl rfl rfl ?_
    refine G.moveS rfl trivial rfl rfl rfl ?_
    refine G.moveI rfl trivial rfl rfl rfl ?_
    refine G.sliceL rfl trivial rfl rfl Try.underlying22 I5 rfl rfl (by omega) ?_
    refine G.call E11 rfl rfl trivial rfl rfl (more_spec W0 _ (moreS 0#32 (xs.take p)) _ _ (xs.drop p) (by simp) (by simp; omega) (by rw [← bytesV_drop]; have := (q0 []).cut (n := xs.length) (cap := c0) (l := p) (sz := 1) (by simp) hxc; simpa using this)) rfl ?_
    rintro e L2 ⟨rfl, rfl⟩
    rw [moreS_append, List.take_append_drop]
    refine G.moveS rfl trivial rfl rfl rfl ?_
    refine G.call E9 rfl rfl trivial rfl rfl (sum_spec W0 _ a0 c0 xs rfl (by omega) (q0 _)) rfl ?_
    rintro e L2 ⟨rfl, rfl⟩
    refine G.bin rfl trivial rfl rfl rfl rfl rfl ?_
    refine G.yes (t := 61) rfl rfl ?_
    refine G.assignB rfl trivial rfl rfl rfl ?_
    refine G.nil ?_
    refine C.ret ?_
    -- end g19F
    exact ⟨rfl, _, Res.of (rs := [.tmp 4]) rfl rfl, rfl⟩

theorem any_snoc {xs : List UInt8} {i : Nat} (h : i < xs.length) : (xs.take (i + 1)).any (fun c => decide (c ≠ 0)) = ((xs.take i).any (fun c => decide (c ≠ 0)) || decide (xs[i] ≠ 0)) := by
  rw [take_snoc h, List.any_append]; simp
theorem byte_ne (c : UInt8) : decide (¬ (c.toNat : Int) = 0) = decide (c ≠ 0) := by
  by_cases h : c = 0
  · subst h; rfl
  · have : ¬ c.toNat = 0 := fun e => h (UInt8.toNat_inj.1 e)
    have h2 : ¬ (c.toNat : Int) = 0 := by omega
    rw [decide_eq_true h, decide_eq_true h2]
/-- a text some of whose bytes are changed, as far as the i-th of them -/
def chg (xs ys : List UInt8) (p i : Nat) : List UInt8 := xs.take p ++ List.zipWith (· ^^^ ·) ((xs.drop p).take i) (ys.take i) ++ xs.drop (p + i)
theorem chg_length {xs ys : List UInt8} {p i : Nat} (h : p + i ≤ xs.length) (hi : i ≤ ys.length) : (chg xs ys p i).length = xs.length := by simp [chg]; omega
theorem chg_zero (xs ys : List UInt8) (p : Nat) : chg xs ys p 0 = xs := by simp [chg]
theorem chg_sum {xs ys : List UInt8} {p : Nat} (h : p + ys.length ≤ xs.length) (h4 : ys.length ≤ 4) (hy : ∃ c ∈ ys, ¬ c = 0) : ¬ ((moreS 0#32 xs).toNat : Int) = ((moreS 0#32 (chg xs ys p ys.length)).toNat : Int) := by
  intro e
  have e2 : moreS 0#32 xs = moreS 0#32 (chg xs ys p ys.length) := BitVec.eq_of_toNat_eq (by omega)
  refine burst (xs.take p) ((xs.drop p).take ys.length) (xs.drop (p + ys.length)) ys (by simp; omega) h4 hy ?_
  rw [show xs.take p ++ (xs.drop p).take ys.length ++ xs.drop (p + ys.length) = xs by rw [← List.take_add, List.take_append_drop], e2]
  unfold chg
  rw [List.take_length]
theorem chg_at {xs ys : List UInt8} {p i : Nat} (h : p + i < xs.length) (hi : i < ys.length) : (chg xs ys p i)[p + i]? = some xs[p + i] := by
  unfold chg
  rw [List.getElem?_append_right (by simp; omega)]
  simp only [List.length_append, List.length_take, List.length_zipWith, List.length_drop, List.getElem?_drop]
  rw [show p + i + (p + i - (min p xs.length + min (min i (xs.length - p)) (min i ys.length))) = p + i by omega]
  exact List.getElem?_eq_getElem h
theorem chg_atV {xs ys : List UInt8} {p i : Nat} (h : p + i < xs.length) (hi : i < ys.length) : (bytesV (chg xs ys p i))[p + i]? = some (.int .u8 (xs[p + i].toNat : Int)) := by
  simp only [bytesV, List.getElem?_map, chg_at h hi]; rfl
theorem chg_set {xs ys : List UInt8} {p i : Nat} (h : p + i < xs.length) (hi : i < ys.length) : (bytesV (chg xs ys p i)).set (p + i) (.int .u8 ((xs[p + i] ^^^ ys[i]).toNat : Int)) = bytesV (chg xs ys p (i + 1)) := by
  have e1 : (bytesV (chg xs ys p i)).set (p + i) (.int .u8 ((xs[p + i] ^^^ ys[i]).toNat : Int)) = bytesV ((chg xs ys p i).set (p + i) (xs[p + i] ^^^ ys[i])) := by
    simp [bytesV, byteV, List.map_set]
  rw [e1]
  congr 1
  unfold chg
  rw [List.set_append_right _ _ (by simp; omega)]
  have e2 : (xs.take p ++ List.zipWith (· ^^^ ·) ((xs.drop p).take i) (ys.take i)).length = p + i := by simp; omega
  rw [e2, Nat.sub_self, List.drop_eq_getElem_cons h, List.set_cons_zero]
  have e3 : List.zipWith (· ^^^ ·) ((xs.drop p).take (i + 1)) (ys.take (i + 1)) = List.zipWith (· ^^^ ·) ((xs.drop p).take i) (ys.take i) ++ [xs[p + i] ^^^ ys[i]] := by
    rw [List.take_succ_eq_append_getElem (by simp; omega), take_snoc hi, List.zipWith_append (by simp; omega)]
    simp
  rw [e3]
  simp [Nat.add_assoc]
theorem crcBurst_walk (W0 : World) (a0 a2 : Option Addr) (c0 c2 : Nat) (xs0 ys0 : List UInt8) (z : Int) (hzb : -9223372036854775808 ≤ z ∧ z ≤ 9223372036854775807) (h0 : xs0.length ≤ c0) (h2 : ys0.length ≤ c2) (r0 : ∀ L, Rd W0 L a0 (bytesV xs0)) (r2 : ∀ L, Rd W0 L a2 (bytesV ys0)) :
    FnS Try.prog W0 4 #[.slice a0 xs0.length c0, .int .i64 z, .slice a2 ys0.length c2] [] (fun e _ => e = .returned (.bool true)) := by
  have hx : (xs0.take 200).length ≤ 200 := by simp; omega
  have hy : (ys0.take 4).length ≤ 4 := by simp; omega
  have q0 : ∀ L, Rd W0 L a0 (bytesV (xs0.take 200)) := fun L => by rw [← bytesV_take]; exact (r0 L).take
  have q2 : ∀ L, Rd W0 L a2 (bytesV (ys0.take 4)) := fun L => by rw [← bytesV_take]; exact (r2 L).take
  refine FnS.of (args := [.slice a0 xs0.length c0, .int .i64 z, .slice a2 ys0.length c2]) Try.func4 rfl rfl ?_
  refine C.seq ?_
  refine C.region ?_
  refine G.assignB rfl trivial rfl rfl rfl ?_
  refine G.nil ?_
  refine C.seq ?_
  refine C.region ?_
  refine G.call E7 rfl rfl trivial rfl rfl (begun_spec W0 []) rfl ?_
  rintro e L2 ⟨rfl, rfl⟩
  refine G.assignB rfl trivial rfl rfl rfl ?_
  refine G.nil ?_
  refine C.seq ?_
  refine C.seq ?_
  refine C.region ?_
  refine G.moveB rfl trivial rfl rfl rfl ?_
  first | refine G.notD rfl trivial rfl rfl rfl ?_ | refine G.not rfl trivial rfl rfl rfl ?_
  refine G.nil ?_
  refine C.condF rfl ?_
  refine C.skip ?_
  refine C.seq ?_
  refine C.region ?_
  refine G.moveS rfl trivial rfl rfl rfl ?_
  refine G.call E8 rfl rfl trivial rfl rfl (short_spec W0 [] a0 c0 xs0 200 rfl h0) rfl ?_
  rintro e L2 ⟨rfl, rfl⟩
  generalize xs0.take 200 = xs at *
  refine G.moveS rfl trivial rfl rfl rfl ?_
  refine G.call E8 rfl rfl trivial rfl rfl (short_spec W0 [] a2 c2 ys0 4 rfl h2) rfl ?_
  rintro e L2 ⟨rfl, rfl⟩
  generalize ys0.take 4 = ys at *
  refine G.assignS rfl trivial rfl rfl rfl ?_
  refine G.assignS rfl trivial rfl rfl rfl ?_
  refine G.nil ?_
  refine C.seq ?_
  refine C.region ?_
  refine G.assignB rfl trivial rfl rfl rfl ?_
  refine G.nil ?_
  refine C.seq ?_
  refine C.seq ?_
  refine C.region ?_
  refine G.assignI rfl trivial rfl rfl rfl ?_
  refine G.nil ?_
  refine C.block ?_
  refine C.loop (fun m F D' L' => ∃ i : Nat, i ≤ ys.length ∧ m = ys.length - i ∧ F 9 = .int .i64 i ∧ F 8 = .bool ((ys.take i).any (fun c => decide (c ≠ 0))) ∧ F 0 = .slice a0 xs.length c0 ∧ F 1 = .int .i64 z ∧ F 2 = .slice a2 ys.length c2 ∧ D' = [] ∧ [] = L') ⟨_, ⟨0, by omega, rfl, rfl, rfl, rfl, rfl, rfl, rfl, rfl⟩⟩ ?_
  rintro m F D' L' ⟨i, hi, rfl, h9, h8, h0', h1', h2', rfl, rfl⟩
  refine C.fix (d := 9) h9 ?_
  refine C.fix (d := 8) h8 ?_
  refine C.fix (d := 0) h0' ?_
  refine C.fix (d := 1) h1' ?_
  refine C.fix (d := 2) h2' ?_
  refine C.seq ?_
  refine C.seq ?_
  refine C.region ?_
  refine G.moveI rfl trivial rfl rfl rfl ?_
  refine G.moveS rfl trivial rfl rfl rfl ?_
  refine G.lenSlice rfl trivial rfl rfl Try.underlying22 rfl ?_
  refine G.bin rfl trivial rfl rfl rfl rfl rfl ?_
  refine G.nil ?_
  refine C.cond _ rfl ?_ ?_
  · intro hc1
    have hlt : i < ys.length := by omega
    obtain ⟨b2, o2, rfl, d2⟩ := (q2 []).some_ (by simp; omega)
    refine C.skip ?_
    refine C.seq ?_
    refine C.block ?_
    refine C.region ?_
    refine G.moveB rfl trivial rfl rfl rfl ?_
    refine G.moveB rfl trivial rfl rfl rfl ?_
    refine G.forkB (t := 26) _ rfl ?_ ?_
    · intro hg26
      refine G.skip rfl rfl rfl rfl rfl rfl ?_
      refine G.skip rfl rfl rfl rfl rfl rfl ?_
      refine G.skip rfl rfl rfl rfl rfl rfl ?_
      refine G.skip rfl rfl rfl rfl rfl rfl ?_
      refine G.skip rfl rfl rfl rfl rfl rfl ?_
      first | refine G.pickT rfl trivial rfl rfl rfl rfl ?_ | refine G.pickF rfl trivial rfl rfl rfl rfl ?_
      refine G.assignB rfl trivial rfl rfl rfl ?_
      refine G.nil ?_
      refine C.region ?_
      refine G.moveI rfl trivial rfl rfl rfl ?_
      refine G.add rfl trivial rfl rfl rfl rfl (by omega) ?_
      refine G.assignI rfl trivial rfl rfl rfl ?_
      refine G.nil ?_
      exact ⟨ys.length - (i + 1), by omega, i + 1, by omega, rfl, rfl, by rw [any_snoc hlt, hg26]; rfl, rfl, rfl, rfl, rfl, rfl⟩
    · intro hg26
      refine G.moveS rfl ⟨_, rfl, rfl, rfl⟩ rfl rfl rfl ?_
      refine G.moveI rfl ⟨_, rfl, rfl, rfl⟩ rfl rfl rfl ?_
      refine G.indexAddr rfl ⟨_, rfl, rfl, rfl⟩ rfl rfl Try.underlying22 I5 rfl rfl (by omega) ?_
      refine G.load (v := .int .u8 (ys[i].toNat : Int)) rfl ⟨_, rfl, rfl, rfl⟩ rfl rfl Try.underlying5 rfl rfl (fun w hm => by rw [← bytesV_at hlt, ← d2 w hm i (by simpa using hlt)]; simp) ?_
      refine G.bin rfl ⟨_, rfl, rfl, rfl⟩ rfl rfl rfl rfl rfl ?_
      first | refine G.pickT rfl trivial rfl rfl rfl rfl ?_ | refine G.pickF rfl trivial rfl rfl rfl rfl ?_
      refine G.assignB rfl trivial rfl rfl rfl ?_
      refine G.nil ?_
      refine C.region ?_
      refine G.moveI rfl trivial rfl rfl rfl ?_
      refine G.add rfl trivial rfl rfl rfl rfl (by omega) ?_
      refine G.assignI rfl trivial rfl rfl rfl ?_
      refine G.nil ?_
      exact ⟨ys.length - (i + 1), by omega, i + 1, by omega, rfl, rfl, by rw [any_snoc hlt, hg26, ← byte_ne]; rfl, rfl, rfl, rfl, rfl, rfl⟩
  · intro hc1
    obtain rfl : i = ys.length := by omega
    rw [List.take_length]
    refine C.exit ?_
    refine C.seq ?_
    refine C.seq ?_
    refine C.region ?_
    refine G.moveI rfl trivial rfl rfl rfl ?_
    refine G.bin rfl trivial rfl rfl rfl rfl rfl ?_
    refine G.moveB rfl trivial rfl rfl rfl ?_
    refine G.fork (t := 35) _ rfl ?_ ?_
    · intro hg35
      refine G.skip rfl rfl rfl rfl rfl rfl ?_
      refine G.skip rfl rfl rfl rfl rfl rfl ?_
      refine G.skip rfl rfl rfl rfl rfl rfl ?_
      refine G.skip rfl rfl rfl rfl rfl rfl ?_
      refine G.skip rfl rfl rfl rfl rfl rfl ?_
      refine G.skip rfl rfl rfl rfl rfl rfl ?_
      refine G.skip rfl rfl rfl rfl rfl rfl ?_
      first | refine G.pickT rfl trivial rfl rfl rfl rfl ?_ | refine G.pickF rfl trivial rfl rfl rfl rfl ?_
      refine G.moveB rfl trivial rfl rfl rfl ?_
      refine G.skip rfl rfl rfl rfl rfl rfl ?_
      refine G.skip rfl rfl rfl rfl rfl rfl ?_
      first | refine G.pickT rfl trivial rfl rfl rfl rfl ?_ | refine G.pickF rfl trivial rfl rfl rfl rfl ?_
      refine G.nil ?_
      refine C.condT rfl ?_
      refine C.seq ?_
      refine C.region ?_
      refine G.assignB rfl trivial rfl rfl rfl ?_
      refine G.nil ?_
      refine C.ret ?_
      -- end c1Fg35T
      exact ⟨rfl, _, Res.of (rs := [.tmp 6]) rfl rfl, rfl⟩
    · intro hg35
      refine G.moveI rfl ⟨_, rfl, rfl, rfl⟩ rfl rfl rfl ?_
      refine G.moveS rfl ⟨_, rfl, rfl, rfl⟩ rfl rfl rfl ?_
      refine G.lenSlice rfl ⟨_, rfl, rfl, rfl⟩ rfl rfl Try.underlying22 rfl ?_
      refine G.moveS rfl ⟨_, rfl, rfl, rfl⟩ rfl rfl rfl ?_
      refine G.lenSlice rfl ⟨_, rfl, rfl, rfl⟩ rfl rfl Try.underlying22 rfl ?_
      refine G.sub rfl ⟨_, rfl, rfl, rfl⟩ rfl rfl rfl rfl (by omega) ?_
      refine G.bin rfl ⟨_, rfl, rfl, rfl⟩ rfl rfl rfl rfl rfl ?_
      first | refine G.pickT rfl trivial rfl rfl rfl rfl ?_ | refine G.pickF rfl trivial rfl rfl rfl rfl ?_
      refine G.moveB rfl trivial rfl rfl rfl ?_
      refine G.fork (t := 44) _ rfl ?_ ?_
      · intro hg44
        refine G.skip rfl rfl rfl rfl rfl rfl ?_
        refine G.skip rfl rfl rfl rfl rfl rfl ?_
        first | refine G.pickT rfl trivial rfl rfl rfl rfl ?_ | refine G.pickF rfl trivial rfl rfl rfl rfl ?_
        refine G.nil ?_
        refine C.condT rfl ?_
        refine C.seq ?_
        refine C.region ?_
        refine G.assignB rfl trivial rfl rfl rfl ?_
        refine G.nil ?_
        refine C.ret ?_
        -- end c1Fg35Fg44T
        exact ⟨rfl, _, Res.of (rs := [.tmp 6]) rfl rfl, rfl⟩
      · intro hg44
        refine G.moveB rfl ⟨_, rfl, rfl, rfl⟩ rfl rfl rfl ?_
        first | refine G.notD rfl ⟨_, rfl, rfl, rfl⟩ rfl rfl rfl ?_ | refine G.not rfl ⟨_, rfl, rfl, rfl⟩ rfl rfl rfl ?_
        first | refine G.pickT rfl trivial rfl rfl rfl rfl ?_ | refine G.pickF rfl trivial rfl rfl rfl rfl ?_
        refine G.nil ?_
        refine C.condB _ rfl ?_ ?_
        · intro hc2
          refine C.seq ?_
          refine C.region ?_
          refine G.assignB rfl trivial rfl rfl rfl ?_
          refine G.nil ?_
          refine C.ret ?_
          -- end c1Fg35Fg44Fc2T
          exact ⟨rfl, _, Res.of (rs := [.tmp 6]) rfl rfl, rfl⟩
        · intro hc2
          refine C.skip ?_
          refine C.seq ?_
          refine C.region ?_
          refine G.moveS rfl trivial rfl rfl rfl ?_
          obtain ⟨p, rfl⟩ : ∃ p : Nat, z = p := ⟨z.toNat, by omega⟩
          refine G.appendNil rfl trivial rfl rfl Try.underlying22 Try.underlying22 I5 rfl (by decide) rfl (by decide) (q0 _) (by simp) bytesV_ok (by omega) ?_
          intro v s hv
          obtain ⟨hvl, ⟨rfl, hz0, rfl⟩ | ⟨b, c, kk, rfl, rfl, hk1, hk2⟩⟩ := hv
          · exfalso
            have : ys = [] := List.eq_nil_of_length_eq_zero (by omega)
            subst this
            simp at hc2
          have hpl : p + ys.length ≤ xs.length := by omega
          have hxp : xs.length ≤ 200 := by omega
          refine G.assignS rfl trivial rfl rfl rfl ?_
          refine G.nil ?_
          refine C.seq ?_
          refine C.seq ?_
          refine C.region ?_
          refine G.assignI rfl trivial rfl rfl rfl ?_
          refine G.nil ?_
          refine C.block ?_
          refine C.loop (fun m F D' L' => ∃ i : Nat, i ≤ ys.length ∧ m = ys.length - i ∧ F 11 = .int .i64 i ∧ F 10 = .slice (some ⟨b, 0, none⟩) xs.length c ∧ F 0 = .slice a0 xs.length c0 ∧ F 1 = .int .i64 (p : Int) ∧ F 2 = .slice a2 ys.length c2 ∧ D' = [] ∧ [[(b, .row (bytesV (chg xs ys p i)) 5 kk)]] = L') ⟨_, ⟨0, by omega, rfl, rfl, rfl, rfl, rfl, rfl, rfl, by rw [chg_zero]⟩⟩ ?_
          rintro m F D' L' ⟨i, hi, rfl, h11, h10, h0', h1', h2', rfl, rfl⟩
          refine C.fix (d := 11) h11 ?_
          refine C.fix (d := 10) h10 ?_
          refine C.fix (d := 0) h0' ?_
          refine C.fix (d := 1) h1' ?_
          refine C.fix (d := 2) h2' ?_
          refine C.seq ?_
          refine C.seq ?_
          refine C.region ?_
          refine G.moveI rfl trivial rfl rfl rfl ?_
          refine G.moveS rfl trivial rfl rfl rfl ?_
          refine G.lenSlice rfl trivial rfl rfl Try.underlying22 rfl ?_
          refine G.bin rfl trivial rfl rfl rfl rfl rfl ?_
          refine G.nil ?_
          refine C.cond _ rfl ?_ ?_
          · intro hc3
            have hlt : i < ys.length := by omega
            obtain ⟨b2, o2, rfl, d2⟩ := (q2 [[(b, .row (bytesV (chg xs ys p i)) 5 kk)]]).some_ (by simp; omega)
            have hpi : p + i < xs.length := by omega
            refine C.skip ?_
            refine C.seq ?_
            refine C.block ?_
            refine C.drawn mixed (_) [12] (fun _ h => h) ?_
            refine GA.pure (i := 0) (fun _ _ _ _ _ h => h) rfl (by kernel_rfl) trivial rfl rfl (Y.moveS rfl rfl) (#[true, false, false, false, false, false, false, false, false, false, false, false, false]) (by kernel_rfl) ?_
            refine GA.pure (i := 1) (fun _ _ _ _ _ h => h) rfl (by kernel_rfl) trivial rfl rfl (Y.moveI rfl rfl) (#[true, true, false, false, false, false, false, false, false, false, false, false, false]) (by kernel_rfl) ?_
            refine GA.pure (i := 2) (fun _ _ _ _ _ h => h) rfl (by kernel_rfl) trivial rfl rfl (Y.moveI rfl rfl) (#[true, true, true, false, false, false, false, false, false, false, false, false, false]) (by kernel_rfl) ?_
            refine GA.pure (i := 3) (fun _ _ _ _ _ h => h) rfl (by kernel_rfl) trivial rfl rfl (Y.add rfl rfl rfl (by omega)) (#[true, true, true, true, false, false, false, false, false, false, false, false, false]) (by kernel_rfl) ?_
            refine GA.pure (i := 4) (fun _ _ _ _ _ h => h) rfl (by kernel_rfl) trivial rfl rfl (Y.indexAddr rfl Try.underlying22 I5 rfl rfl (by omega)) (#[true, true, true, true, true, false, false, false, false, false, false, false, false]) (by kernel_rfl) ?_
            refine GA.read (i := 5) (fun _ _ _ _ _ h => h) rfl (by kernel_rfl) (by kernel_rfl) trivial rfl rfl (Y.loadAt (v := .int .u8 (xs[p + i].toNat : Int)) At.here rfl Try.underlying5 rfl (by rfl) (by rw [show 0 + ((p : Int) + (i : Int)).toNat * 1 = p + i by omega]; exact chg_atV hpi hlt)) (#[true, true, true, true, true, true, false, false, false, false, false, false, false]) (by kernel_rfl) ?_
            refine GA.pure (i := 6) (fun _ _ _ _ _ h => h) rfl (by kernel_rfl) trivial rfl rfl (Y.moveS rfl rfl) (#[true, true, true, true, true, true, true, false, false, false, false, false, false]) (by kernel_rfl) ?_
            refine GA.pure (i := 7) (fun _ _ _ _ _ h => h) rfl (by kernel_rfl) trivial rfl rfl (Y.moveI rfl rfl) (#[true, true, true, true, true, true, true, true, false, false, false, false, false]) (by kernel_rfl) ?_
            refine GA.pure (i := 8) (fun _ _ _ _ _ h => h) rfl (by kernel_rfl) trivial rfl rfl (Y.indexAddr rfl Try.underlying22 I5 rfl rfl (by omega)) (#[true, true, true, true, true, true, true, true, true, false, false, false, false]) (by kernel_rfl) ?_
            refine GA.read (i := 9) (fun _ _ _ _ _ h => h) rfl (by kernel_rfl) (by kernel_rfl) trivial rfl rfl (Y.load (v := .int .u8 (ys[i].toNat : Int)) rfl Try.underlying5 rfl rfl (fun w hm => by rw [← bytesV_at hlt, ← d2 w hm i (by simpa using hlt)]; simp)) (#[true, true, true, true, true, true, true, true, true, true, false, false, false]) (by kernel_rfl) ?_
            refine GA.pure (i := 10) (fun _ _ _ _ _ h => h) rfl (by kernel_rfl) trivial rfl rfl (Y.bin rfl rfl rfl rfl) (#[true, true, true, true, true, true, true, true, true, true, true, false, false]) (by kernel_rfl) ?_
            refine GA.fix (d := 66) (v := .int .u8 ((xs[p + i] ^^^ ys[i]).toNat : Int)) (xor8 _ _) ?_
            refine GA.pure (i := 11) (fun _ _ _ _ _ h => h) rfl (by kernel_rfl) trivial rfl rfl (Y.indexAddr rfl Try.underlying22 I5 rfl rfl (by omega)) (#[true, true, true, true, true, true, true, true, true, true, true, true, false]) (by kernel_rfl) ?_
            refine GA.one (i := 12) rfl (by kernel_rfl) (#[true, true, true, true, true, true, true, true, true, true, true, true, true]) (by kernel_rfl) ?_
            refine G.store At.here rfl trivial rfl I5 rfl rfl rfl (by simp [chg_length (show p + i ≤ xs.length by omega) (show i ≤ ys.length by omega)]; omega) (bytesV (chg xs ys p (i + 1))) (by rw [show 0 + ((p : Int) + (i : Int)).toNat * 1 = p + i by omega]; exact chg_set hpi hlt) ?_
            refine G.nil ?_
            refine ⟨fun _ h => absurd h (by simp [hit]), ?_⟩
            refine GA.done (by kernel_rfl) ?_
            refine C.region ?_
            refine G.moveI rfl trivial rfl rfl rfl ?_
            refine G.add rfl trivial rfl rfl rfl rfl (by omega) ?_
            refine G.assignI rfl trivial rfl rfl rfl ?_
            refine G.nil ?_
            exact ⟨ys.length - (i + 1), by omega, i + 1, by omega, rfl, rfl, rfl, rfl, rfl, rfl, rfl, rfl⟩
          · intro hc3
            obtain rfl : i = ys.length := by omega
            have hcl := chg_length hpl (Nat.le_refl ys.length)
            refine C.exit ?_
            refine C.seq ?_
            refine C.region ?_
            refine G.moveS rfl trivial rfl rfl rfl ?_
            refine G.call E9 rfl rfl trivial rfl rfl (sum_spec W0 _ a0 c0 xs rfl (by omega) (q0 _)) rfl ?_
            rintro e L2 ⟨rfl, rfl⟩
            refine G.moveS rfl trivial rfl rfl rfl ?_
            refine G.call E9 rfl rfl trivial rfl rfl (sum_spec W0 _ (some ⟨b, 0, none⟩) c (chg xs ys p ys.length) hcl.symm (by omega) (Rd.row0 At.here)) rfl ?_
            rintro e L2 ⟨rfl, rfl⟩
            refine G.bin rfl trivial rfl rfl rfl rfl rfl ?_
            refine G.yes (t := 72) rfl (chg_sum hpl hy (by simpa using hc2)) ?_
            refine G.assignB rfl trivial rfl rfl rfl ?_
            refine G.nil ?_
            refine C.ret ?_
            -- end c1Fg35Fg44Fc2Fc3F
            exact ⟨rfl, _, Res.of (rs := [.tmp 6]) rfl rfl, rfl⟩
end Go.Proofs.Ytajkjagckiekfaa
