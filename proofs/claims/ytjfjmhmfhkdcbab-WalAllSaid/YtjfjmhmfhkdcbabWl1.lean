/-
  The log: numbers as bytes, written and read; a text of two places: walked.
-/
import Derived.Test.YtjfjmhmfhkdcbabWl0
namespace Go.Proofs.Ytjfjmhmfhkdcbab
open Go Go.SL Go.RowKit

theorem or128 (u : Nat) : IntKind.u8.wrap ((BitVec.ofInt 8 (IntKind.u8.wrap ((u : Nat) : Int)) ||| BitVec.ofInt 8 128).toNat : Int) = ((UInt8.ofNat (u % 128 + 128)).toNat : Int) := by
  have h1 : IntKind.u8.wrap ((u : Nat) : Int) = ((u % 256 : Nat) : Int) := by
    simp only [IntKind.wrap, IntKind.bits, IntKind.signed]
    simp
  have h2 : ∀ c : Fin 256, (BitVec.ofNat 8 c.val ||| BitVec.ofNat 8 128).toNat = c.val % 128 + 128 := by decide +kernel
  have h3 := h2 ⟨u % 256, Nat.mod_lt _ (by decide)⟩
  rw [h1, BitVec.ofInt_natCast, show BitVec.ofInt 8 128 = BitVec.ofNat 8 128 from rfl, h3]
  have h4 : (UInt8.ofNat (u % 128 + 128)).toNat = (u % 128 + 128) % 256 := UInt8.toNat_ofNat' ..
  rw [h4, show u % 256 % 128 = u % 128 by omega]
  have : u % 128 + 128 < 256 := by omega
  rw [Nat.mod_eq_of_lt this]
  exact wrap_in .u8 (by simp [IntKind.min, IntKind.max, IntKind.bits, IntKind.signed]; omega)
theorem shr_u64 (u k : Nat) (h : k < 64) : (u : Int).fdiv (2 ^ (min (k : Int).toNat 64)) = ((u / 2 ^ k : Nat) : Int) := by
  rw [show ((k : Nat) : Int).toNat = k by omega, Nat.min_eq_left (by omega), show (2 : Int) ^ k = ((2 ^ k : Nat) : Int) by simp]
  rw [Int.fdiv_eq_ediv_of_nonneg _ (Int.natCast_nonneg _), ← Int.natCast_ediv]
section
variable (W0 : World) (L : List Seg)
theorem put_spec (v : Value) (xs : List UInt8) (sg : Seg) (hown : OwnS v xs.length (bytesV xs) 5 1 sg) (n : Nat) (hn : n < 1099511627776) (hx : xs.length ≤ 1000) :
    FnS Try.prog W0 36 #[v, .int .i64 (n : Int)] (sg :: L) (fun e L' => ∃ v' sg', OwnS v' (xs ++ num n).length (bytesV (xs ++ num n)) 5 1 sg' ∧ L' = sg' :: L ∧ e = .returned v') := by
  have hfl : (num n).length ≤ 6 := num_length hn
  obtain ⟨a0, c0, rfl, _⟩ := hown.form
  refine FnS.of (args := [.slice a0 xs.length c0, .int .i64 (n : Int)]) Try.func36 rfl rfl ?_
  refine C.seq ?_
  refine C.region ?_
  refine G.assignS rfl trivial rfl rfl rfl ?_
  refine G.nil ?_
  refine C.seq ?_
  refine C.region ?_
  refine G.moveI rfl trivial rfl rfl rfl ?_
  refine G.convInt rfl trivial rfl rfl Try.underlying2 Try.underlying90 rfl ?_
  refine G.fix (d := 7) (v := .int .u64 (n : Int)) (by show Value.int .u64 _ = _; rw [u64_of n (by omega)]) ?_
  refine G.shl rfl trivial rfl rfl rfl rfl (by omega) ?_
  refine G.fix (d := 8) (v := .int .u64 ((2 * n : Nat) : Int)) (by show Value.int .u64 (IntKind.u64.wrap ((n : Int) * 2 ^ (min (1 : Int).toNat 64))) = _; rw [show (2 : Int) ^ (min (1 : Int).toNat 64) = 2 from rfl, show (n : Int) * 2 = ((2 * n : Nat) : Int) by omega, u64_of _ (by omega)]) ?_
  refine G.assignI rfl trivial rfl rfl rfl ?_
  refine G.nil ?_
  refine C.seq ?_
  refine C.seq ?_
  refine C.region ?_
  refine G.moveI rfl trivial rfl rfl rfl ?_
  refine G.bin rfl trivial rfl rfl rfl rfl rfl ?_
  refine G.nil ?_
  refine C.no rfl (by omega) ?_
  refine C.skip ?_
  refine C.seq ?_
  refine C.block ?_
  refine C.loop (fun m F D' L' => ∃ (ys : List UInt8) (u : Nat) (a : Option Addr) (c : Nat) (s : Seg), ys ++ leb u = xs ++ num n ∧ u ≤ 2 * n ∧ OwnS (.slice a ys.length c) ys.length (bytesV ys) 5 1 s ∧ u = m ∧ F 0 = .slice a ys.length c ∧ F 5 = .int .u64 (u : Int) ∧ D' = [] ∧ s :: L = L') ⟨_, ⟨xs, 2 * n, a0, c0, sg, rfl, by omega, hown, rfl, rfl, rfl, rfl, rfl⟩⟩ ?_
  rintro m F D' L' ⟨ys, u, a, c, s, hys, hu, ho, rfl, h0', h5, rfl, rfl⟩
  refine C.fix (d := 0) h0' ?_
  refine C.fix (d := 5) h5 ?_
  refine C.seq ?_
  refine C.seq ?_
  refine C.region ?_
  refine G.moveI rfl trivial rfl rfl rfl ?_
  refine G.bin rfl trivial rfl rfl rfl rfl rfl ?_
  refine G.nil ?_
  refine C.cond _ rfl ?_ ?_
  · intro hc1
    have hge : ¬ u < 128 := by omega
    have hyl : ys.length ≤ 1006 := by have := congrArg List.length hys; rw [List.length_append, List.length_append] at this; omega
    refine C.skip ?_
    refine C.block ?_
    refine C.seq ?_
    refine C.region ?_
    refine G.moveS rfl trivial rfl rfl rfl ?_
    refine G.moveI rfl trivial rfl rfl rfl ?_
    refine G.convInt rfl trivial rfl rfl Try.underlying90 Try.underlying5 rfl ?_
    refine G.bin rfl trivial rfl rfl rfl rfl rfl ?_
    refine G.fix (d := 18) (v := .int .u8 ((UInt8.ofNat (u % 128 + 128)).toNat : Int)) (by show Value.int .u8 _ = _; exact congrArg _ (or128 u)) ?_
    refine G.buildSliceL (cs := [.int .u8 ((UInt8.ofNat (u % 128 + 128)).toNat : Int)]) (zs := [(.int .u8 0)]) rfl trivial rfl rfl Try.underlying34 I5 rfl (by kernel_rfl) rfl rfl ?_
    intro b19
    refine G.less (fun _ h => h.perm2) ?_
    refine G.append ho rfl trivial rfl rfl Try.underlying34 Try.underlying34 I5 rfl (by decide) rfl rfl (by decide) (Rd.row0 (cs := bytesV [UInt8.ofNat (u % 128 + 128)]) (.next .here)) rfl bytesV_ok (by omega) ?_
    intro v2 s2 hv2
    obtain ⟨a2, c2, rfl, _⟩ := hv2.form
    refine G.less (fun _ h => h.skip1) ?_
    refine G.assignS rfl trivial rfl rfl rfl ?_
    refine G.nil ?_
    refine C.region ?_
    refine G.moveI rfl trivial rfl rfl rfl ?_
    refine G.shr rfl trivial rfl rfl rfl rfl (by omega) ?_
    refine G.fix (d := 22) (v := .int .u64 ((u / 128 : Nat) : Int)) (by show Value.int .u64 _ = _; congr 1; exact shr_u64 u 7 (by decide)) ?_
    refine G.assignI rfl trivial rfl rfl rfl ?_
    refine G.nil ?_
    exact ⟨u / 128, by omega, ys ++ [UInt8.ofNat (u % 128 + 128)], u / 128, a2, c2, s2, by rw [← hys, leb_ge hge, List.append_assoc]; rfl, by omega, by rw [List.length_append, bytesV_append]; exact hv2, rfl, by rw [List.length_append]; rfl, rfl, rfl, rfl⟩
  · intro hc1
    have hlt : u < 128 := by omega
    have hyl : ys.length ≤ 1006 := by have := congrArg List.length hys; rw [List.length_append, List.length_append] at this; omega
    rw [leb_lt hlt] at hys
    refine C.exit ?_
    refine C.seq ?_
    refine C.region ?_
    refine G.moveS rfl trivial rfl rfl rfl ?_
    refine G.moveI rfl trivial rfl rfl rfl ?_
    refine G.convInt rfl trivial rfl rfl Try.underlying90 Try.underlying5 rfl ?_
    refine G.fix (d := 25) (v := .int .u8 ((UInt8.ofNat u).toNat : Int)) (u8_ofN u) ?_
    refine G.buildSliceL (cs := [.int .u8 ((UInt8.ofNat u).toNat : Int)]) (zs := [(.int .u8 0)]) rfl trivial rfl rfl Try.underlying34 I5 rfl (by kernel_rfl) rfl rfl ?_
    intro b26
    refine G.less (fun _ h => h.perm2) ?_
    refine G.append ho rfl trivial rfl rfl Try.underlying34 Try.underlying34 I5 rfl (by decide) rfl rfl (by decide) (Rd.row0 (cs := bytesV [UInt8.ofNat u]) (.next .here)) rfl bytesV_ok (by omega) ?_
    intro v2 s2 hv2
    obtain ⟨a2, c2, rfl, _⟩ := hv2.form
    refine G.less (fun _ h => h.skip1) ?_
    refine G.assignS rfl trivial rfl rfl rfl ?_
    refine G.nil ?_
    refine C.ret ?_
    -- end c1F
    exact ⟨rfl, _, Res.of (rs := [.tmp 4]) rfl rfl, _, s2, by rw [← hys, List.length_append, bytesV_append]; exact hv2, rfl, rfl⟩
theorem text2_spec (b e : Nat) (hb : b < 1099511627776) (he : e < 1099511627776) :
    FnS Try.prog W0 21 #[.int .i64 (b : Int), .int .i64 (e : Int)] L (fun r L' => ∃ v' sg', OwnS v' (txt b e).length (bytesV (txt b e)) 5 1 sg' ∧ L' = sg' :: L ∧ r = .returned v') := by
  have h1 := num_length hb
  refine FnS.of (args := [.int .i64 (b : Int), .int .i64 (e : Int)]) Try.func21 rfl rfl ?_
  refine C.seq ?_
  refine C.region ?_
  refine G.assignS rfl trivial rfl rfl rfl ?_
  refine G.nil ?_
  refine C.seq ?_
  refine C.region ?_
  refine G.moveI rfl trivial rfl rfl rfl ?_
  refine G.less (fun _ h => h.empty) ?_
  refine G.call E36 rfl rfl trivial rfl rfl (put_spec W0 L _ [] [] (OwnS.nil _ _) b hb (by decide)) rfl ?_
  rintro e L2 ⟨v6, s6, hv6, rfl, rfl⟩
  obtain ⟨a6, c6, rfl, _⟩ := hv6.form
  refine G.moveI rfl trivial rfl rfl rfl ?_
  refine G.call E36 rfl rfl trivial rfl rfl (put_spec W0 L _ _ s6 hv6 e he (by simp; omega)) rfl ?_
  rintro e L2 ⟨v8, s8, hv8, rfl, rfl⟩
  obtain ⟨a8, c8, rfl, _⟩ := hv8.form
  refine G.assignS rfl trivial rfl rfl rfl ?_
  refine G.nil ?_
  refine C.ret ?_
  -- end 
  exact ⟨rfl, _, Res.of (rs := [.tmp 4]) rfl rfl, _, s8, hv8, rfl, rfl⟩
/-! ### Read -/
theorem leb_step (u : Nat) : ∃ c ys, leb u = c :: ys ∧ c.toNat = u % 128 + (if u < 128 then 0 else 128) ∧ (u < 128 → ys = []) ∧ (¬ u < 128 → ys = leb (u / 128)) := by
  by_cases h : u < 128
  · refine ⟨_, [], leb_lt h, ?_, fun _ => rfl, fun hn => absurd h hn⟩
    rw [if_pos h, UInt8.toNat_ofNat']
    omega
  · refine ⟨_, _, leb_ge h, ?_, fun hn => absurd hn h, fun _ => rfl⟩
    rw [if_neg h, UInt8.toNat_ofNat']
    omega
theorem and127 (c : UInt8) : IntKind.u8.wrap ((BitVec.ofInt 8 (c.toNat : Int) &&& BitVec.ofInt 8 127).toNat : Int) = ((c.toNat % 128 : Nat) : Int) := by
  have h2 : ∀ c : Fin 256, (BitVec.ofNat 8 c.val &&& BitVec.ofNat 8 127).toNat = c.val % 128 := by decide +kernel
  have h3 := h2 ⟨c.toNat, c.toNat_lt⟩
  rw [BitVec.ofInt_natCast, show BitVec.ofInt 8 127 = BitVec.ofNat 8 127 from rfl, h3]
  exact wrap_in .u8 (by simp [IntKind.min, IntKind.max, IntKind.bits, IntKind.signed]; omega)
theorem or_acc (s x i : Nat) (hs : s < 128 ^ i) (hx : x < 128) (hi : i ≤ 5) : IntKind.u64.wrap ((BitVec.ofInt 64 (s : Int) ||| BitVec.ofInt 64 (IntKind.u64.wrap ((x : Int) * 2 ^ (min (7 * (i : Int)).toNat 64)))).toNat : Int) = ((s + x * 128 ^ i : Nat) : Int) := by
  have e0 : (2 : Nat) ^ (7 * i) = 128 ^ i := by rw [Nat.pow_mul]
  have hp : 128 ^ i ≤ 128 ^ 5 := Nat.pow_le_pow_right (by decide) hi
  have hm : x * 128 ^ i ≤ 127 * 128 ^ 5 := Nat.mul_le_mul (by omega) hp
  have h5 : (128 : Nat) ^ 5 = 34359738368 := rfl
  have e1 : IntKind.u64.wrap ((x : Int) * 2 ^ (min (7 * (i : Int)).toNat 64)) = ((x * 128 ^ i : Nat) : Int) := by
    rw [show (7 * (i : Int)).toNat = 7 * i by omega, Nat.min_eq_left (by omega), show (2 : Int) ^ (7 * i) = ((2 ^ (7 * i) : Nat) : Int) by simp, e0, ← Int.natCast_mul]
    exact u64_of _ (by omega)
  rw [e1, BitVec.ofInt_natCast, BitVec.ofInt_natCast, BitVec.toNat_or, BitVec.toNat_ofNat, BitVec.toNat_ofNat, Nat.mod_eq_of_lt (by omega), Nat.mod_eq_of_lt (by omega)]
  have h1 := Nat.two_pow_add_eq_or_of_lt (i := 7 * i) (b := s) (by rw [e0]; exact hs) x
  rw [e0] at h1
  rw [Nat.or_comm, Nat.mul_comm x, ← h1, Nat.add_comm]
  exact u64_of _ (by rw [Nat.mul_comm] at hm; omega)
theorem and1_even (n : Nat) : ¬ IntKind.u64.wrap ((BitVec.ofInt 64 ((2 * n : Nat) : Int) &&& BitVec.ofInt 64 1).toNat : Int) = 1 := by
  have h : (BitVec.ofInt 64 ((2 * n : Nat) : Int) &&& BitVec.ofInt 64 1).toNat = 0 := by
    rw [BitVec.ofInt_natCast, show BitVec.ofInt 64 1 = BitVec.ofNat 64 1 from rfl, BitVec.toNat_and, BitVec.toNat_ofNat, BitVec.toNat_ofNat, show 1 % 2 ^ 64 = 1 from rfl, Nat.and_one_is_mod]
    omega
  rw [h]
  decide
theorem get_spec (a : Option Addr) (c : Nat) (n : Nat) (hn : n < 1099511627776) (ys xs : List UInt8) (hxs : xs = num n ++ ys) {l : Nat} (hl : l = xs.length) (hr : Rd W0 L a (bytesV xs)) :
    FnS Try.prog W0 29 #[.slice a l c] L (fun e L' => L' = L ∧ e = .returned (.tuple #[.int .i64 (n : Int), .int .i64 ((num n).length : Int), .int .i64 0])) := by
  subst hl
  have hnl := num_length hn
  refine FnS.of (args := [.slice a xs.length c]) Try.func29 rfl rfl ?_
  refine C.seq ?_
  refine C.region ?_
  refine G.assignI rfl trivial rfl rfl rfl ?_
  refine G.assignI rfl trivial rfl rfl rfl ?_
  refine G.assignI rfl trivial rfl rfl rfl ?_
  refine G.nil ?_
  refine C.seq ?_
  refine C.region ?_
  refine G.assignI rfl trivial rfl rfl rfl ?_
  refine G.nil ?_
  refine C.seq ?_
  refine C.seq ?_
  refine C.region ?_
  refine G.moveS rfl trivial rfl rfl rfl ?_
  refine G.lenSlice rfl trivial rfl rfl Try.underlying34 rfl ?_
  refine G.moveI rfl trivial rfl rfl rfl ?_
  refine G.nil ?_
  refine C.block ?_
  refine C.loop (fun m F D' L' => ∃ i : Nat, i ≤ 5 ∧ 2 * n < 128 ^ 6 ∧ (0 < i → 128 ^ i ≤ 2 * n) ∧ xs.drop i = leb (2 * n / 128 ^ i) ++ ys ∧ (num n).length = i + (leb (2 * n / 128 ^ i)).length ∧ m = xs.length - i ∧ F 11 = .int .i64 i ∧ F 10 = .int .i64 (xs.length : Nat) ∧ F 9 = .slice a xs.length c ∧ F 5 = .int .u64 ((2 * n % 128 ^ i : Nat) : Int) ∧ D' = [] ∧ L = L') ⟨_, ⟨0, by omega, by omega, by omega, by simpa [num] using hxs, by simp [num], rfl, rfl, rfl, rfl, by show Value.int .u64 0 = _; rw [Nat.pow_zero, Nat.mod_one]; rfl, rfl, rfl⟩⟩ ?_
  rintro m F D' L' ⟨i, hi5, h6, hip, hdr, hnl2, rfl, h11, h10, h9, h5, rfl, rfl⟩
  refine C.fix (d := 11) h11 ?_
  refine C.fix (d := 10) h10 ?_
  refine C.fix (d := 9) h9 ?_
  refine C.fix (d := 5) h5 ?_
  obtain ⟨w, hw⟩ : ∃ w, w = 2 * n / 128 ^ i := ⟨_, rfl⟩
  obtain ⟨cc, zs, hle, hcc, hz1, hz2⟩ := leb_step w
  rw [← hw] at hdr hnl2
  rw [hle] at hdr hnl2
  have hlt : i < xs.length := by
    rcases Nat.lt_or_ge i xs.length with h | h
    · exact h
    · rw [List.drop_of_length_le h] at hdr; cases hdr
  have hci : xs[i] = cc := by
    have h := List.drop_eq_getElem_cons hlt
    rw [hdr] at h
    exact (List.cons.inj h).1.symm
  obtain ⟨p, q, rfl, _⟩ := hr.some_ (by simp; omega)
  have hcl := cc.toNat_lt
  have hacc : 2 * n % 128 ^ i < 128 ^ i := Nat.mod_lt _ (Nat.pos_of_ne_zero (by simp))
  refine C.seq ?_
  refine C.region ?_
  refine G.bin rfl trivial rfl rfl rfl rfl rfl ?_
  refine G.nil ?_
  refine C.seq ?_
  refine C.yes rfl (by omega) ?_
  refine C.skip ?_
  refine C.seq ?_
  refine C.block ?_
  refine C.seq ?_
  refine C.region ?_
  refine G.moveI rfl trivial rfl rfl rfl ?_
  refine G.indexAddr rfl trivial rfl rfl Try.underlying34 I5 rfl rfl (by omega) ?_
  refine G.load (v := .int .u8 (cc.toNat : Int)) rfl trivial rfl rfl Try.underlying5 rfl rfl (fun w hm => by have h := Rd.cell_at (j := i) hr (by simpa using hlt) w hm; rw [bytesV_at hlt, hci] at h; simpa using h) ?_
  refine G.assignI rfl trivial rfl rfl rfl ?_
  refine G.assignI rfl trivial rfl rfl rfl ?_
  refine G.nil ?_
  refine C.seq ?_
  refine C.seq ?_
  refine C.region ?_
  refine G.moveI rfl trivial rfl rfl rfl ?_
  refine G.bin rfl trivial rfl rfl rfl rfl rfl ?_
  refine G.moveB rfl trivial rfl rfl rfl ?_
  refine G.no (t := 18) rfl (by omega) ?_
  refine G.skip rfl rfl rfl rfl rfl rfl ?_
  refine G.skip rfl rfl rfl rfl rfl rfl ?_
  first | refine G.pickT rfl trivial rfl rfl rfl rfl ?_ | refine G.pickF rfl trivial rfl rfl rfl rfl ?_
  refine G.fix (d := 21) (v := .bool false) rfl ?_
  refine G.nil ?_
  refine C.condF rfl ?_
  refine C.skip ?_
  refine C.seq ?_
  refine C.region ?_
  refine G.moveI rfl trivial rfl rfl rfl ?_
  refine G.moveI rfl trivial rfl rfl rfl ?_
  refine G.bin rfl trivial rfl rfl rfl rfl rfl ?_
  refine G.fix (d := 24) (v := .int .u8 ((cc.toNat % 128 : Nat) : Int)) (by show Value.int .u8 _ = _; exact congrArg _ (and127 cc)) ?_
  refine G.convInt rfl trivial rfl rfl Try.underlying5 Try.underlying90 rfl ?_
  refine G.fix (d := 25) (v := .int .u64 ((cc.toNat % 128 : Nat) : Int)) (by show Value.int .u64 _ = _; rw [u64_of _ (by omega)]) ?_
  refine G.moveI rfl trivial rfl rfl rfl ?_
  refine G.mul rfl trivial rfl rfl rfl rfl (by omega) ?_
  refine G.shl rfl trivial rfl rfl rfl rfl (by omega) ?_
  refine G.bin rfl trivial rfl rfl rfl rfl rfl ?_
  refine G.fix (d := 29) (v := .int .u64 ((2 * n % 128 ^ (i + 1) : Nat) : Int)) (by show Value.int .u64 _ = _; refine congrArg _ ((or_acc _ _ i hacc (Nat.mod_lt _ (by decide)) hi5).trans ?_); rw [Nat.pow_succ, Nat.mod_mul, ← hw, show cc.toNat % 128 = w % 128 by rw [hcc]; split <;> omega, Nat.mul_comm (w % 128)]) ?_
  refine G.assignI rfl trivial rfl rfl rfl ?_
  refine G.nil ?_
  refine C.seq ?_
  refine C.seq ?_
  refine C.region ?_
  refine G.moveI rfl trivial rfl rfl rfl ?_
  refine G.bin rfl trivial rfl rfl rfl rfl rfl ?_
  refine G.nil ?_
  refine C.cond _ rfl ?_ ?_
  · intro hc2
    have hge : ¬ w < 128 := fun h => by rw [if_pos h] at hcc; omega
    have hi4 : i + 1 ≤ 5 := by
      rcases Nat.lt_or_ge i 5 with h | h
      · omega
      · obtain rfl : i = 5 := by omega
        have : 2 * n / 128 ^ 5 < 128 := Nat.div_lt_of_lt_mul (by omega)
        omega
    have hw2 : 2 * n / 128 ^ (i + 1) = w / 128 := by rw [hw, Nat.pow_succ, Nat.div_div_eq_div_mul]
    have hmul : 128 ^ (i + 1) ≤ 2 * n := by
      have h1 : 128 ^ i * 128 ≤ 128 ^ i * w := Nat.mul_le_mul_left _ (by omega)
      have h2 : 128 ^ i * w ≤ 2 * n := by rw [hw]; exact Nat.mul_div_le _ _
      rw [Nat.pow_succ]; omega
    have hdr2 : xs.drop (i + 1) = zs ++ ys := by rw [← List.tail_drop, hdr]; rfl
    refine C.exit ?_
    refine C.region ?_
    refine G.add rfl trivial rfl rfl rfl rfl (by omega) ?_
    refine G.moveI rfl trivial rfl rfl rfl ?_
    refine G.nil ?_
    exact ⟨xs.length - (i + 1), by omega, i + 1, hi4, h6, fun _ => hmul, by rw [hdr2, hz2 hge, hw2], by rw [hw2, hnl2, ← hz2 hge, List.length_cons]; omega, rfl, rfl, rfl, rfl, rfl, rfl, rfl⟩
  · intro hc2
    have hlt2 : w < 128 := by by_cases h : w < 128; exact h; rw [if_neg h] at hcc; omega
    rw [hz1 hlt2] at hnl2
    rw [if_pos hlt2] at hcc
    have hwfull : 2 * n % 128 ^ (i + 1) = 2 * n := by
      refine Nat.mod_eq_of_lt ?_
      rw [Nat.pow_succ]
      have h := Nat.lt_mul_div_succ (2 * n) (Nat.pos_of_ne_zero (show 128 ^ i ≠ 0 by simp))
      rw [← hw] at h
      exact Nat.lt_of_lt_of_le h (Nat.mul_le_mul_left _ (by omega))
    rw [hwfull]
    have hwpos : 0 < i → 0 < w := fun hp => by rw [hw]; exact Nat.div_pos (hip hp) (Nat.pos_of_ne_zero (by simp))
    refine C.skip ?_
    refine C.seq ?_
    refine C.seq ?_
    refine C.region ?_
    refine G.moveI rfl trivial rfl rfl rfl ?_
    refine G.bin rfl trivial rfl rfl rfl rfl rfl ?_
    refine G.moveB rfl trivial rfl rfl rfl ?_
    refine G.fork (t := 34) _ rfl ?_ ?_
    · intro hg34
      refine G.moveI rfl ⟨_, rfl, rfl, rfl⟩ rfl rfl rfl ?_
      refine G.bin rfl ⟨_, rfl, rfl, rfl⟩ rfl rfl rfl rfl rfl ?_
      first | refine G.pickT rfl trivial rfl rfl rfl rfl ?_ | refine G.pickF rfl trivial rfl rfl rfl rfl ?_
      refine G.fix (d := 37) (v := .bool false) (by first | rfl | (show Value.bool _ = _; congr 1; exact decide_eq_false (by have := hwpos (by omega); omega))) ?_
      refine G.nil ?_
      refine C.condF rfl ?_
      refine C.skip ?_
      refine C.seq ?_
      refine C.region ?_
      refine G.moveI rfl trivial rfl rfl rfl ?_
      refine G.shr rfl trivial rfl rfl rfl rfl (by omega) ?_
      refine G.fix (d := 39) (v := .int .u64 (n : Int)) (by show Value.int .u64 _ = _; congr 1; exact (shr_u64 (2 * n) 1 (by decide)).trans (by omega)) ?_
      refine G.convInt rfl trivial rfl rfl Try.underlying90 Try.underlying2 rfl ?_
      refine G.fix (d := 40) (v := .int .i64 (n : Int)) (by show Value.int .i64 _ = _; rw [wrap_i64 (by omega)]) ?_
      refine G.assignI rfl trivial rfl rfl rfl ?_
      refine G.nil ?_
      refine C.seq ?_
      refine C.seq ?_
      refine C.region ?_
      refine G.moveI rfl trivial rfl rfl rfl ?_
      refine G.bin rfl trivial rfl rfl rfl rfl rfl ?_
      refine G.bin rfl trivial rfl rfl rfl rfl rfl ?_
      refine G.fix (d := 43) (v := .bool false) (by show Value.bool _ = _; congr 1; exact decide_eq_false (and1_even n)) ?_
      refine G.nil ?_
      refine C.condF rfl ?_
      refine C.skip ?_
      refine C.seq ?_
      refine C.region ?_
      refine G.moveI rfl trivial rfl rfl rfl ?_
      refine G.moveI rfl trivial rfl rfl rfl ?_
      refine G.add rfl trivial rfl rfl rfl rfl (by omega) ?_
      refine G.assignI rfl trivial rfl rfl rfl ?_
      refine G.assignI rfl trivial rfl rfl rfl ?_
      refine G.assignI rfl trivial rfl rfl rfl ?_
      refine G.nil ?_
      refine C.ret ?_
      -- end c2Fg34T
      exact ⟨rfl, _, Res.of (rs := [.tmp 2, .tmp 3, .tmp 4]) rfl rfl, rfl, by rw [hnl2]; rfl⟩
    · intro hg34
      refine G.skip rfl rfl rfl rfl rfl rfl ?_
      refine G.skip rfl rfl rfl rfl rfl rfl ?_
      first | refine G.pickT rfl trivial rfl rfl rfl rfl ?_ | refine G.pickF rfl trivial rfl rfl rfl rfl ?_
      refine G.fix (d := 37) (v := .bool false) (by first | rfl | (show Value.bool _ = _; congr 1; exact decide_eq_false (by have := hwpos (by omega); omega))) ?_
      refine G.nil ?_
      refine C.condF rfl ?_
      refine C.skip ?_
      refine C.seq ?_
      refine C.region ?_
      refine G.moveI rfl trivial rfl rfl rfl ?_
      refine G.shr rfl trivial rfl rfl rfl rfl (by omega) ?_
      refine G.fix (d := 39) (v := .int .u64 (n : Int)) (by show Value.int .u64 _ = _; congr 1; exact (shr_u64 (2 * n) 1 (by decide)).trans (by omega)) ?_
      refine G.convInt rfl trivial rfl rfl Try.underlying90 Try.underlying2 rfl ?_
      refine G.fix (d := 40) (v := .int .i64 (n : Int)) (by show Value.int .i64 _ = _; rw [wrap_i64 (by omega)]) ?_
      refine G.assignI rfl trivial rfl rfl rfl ?_
      refine G.nil ?_
      refine C.seq ?_
      refine C.seq ?_
      refine C.region ?_
      refine G.moveI rfl trivial rfl rfl rfl ?_
      refine G.bin rfl trivial rfl rfl rfl rfl rfl ?_
      refine G.bin rfl trivial rfl rfl rfl rfl rfl ?_
      refine G.fix (d := 43) (v := .bool false) (by show Value.bool _ = _; congr 1; exact decide_eq_false (and1_even n)) ?_
      refine G.nil ?_
      refine C.condF rfl ?_
      refine C.skip ?_
      refine C.seq ?_
      refine C.region ?_
      refine G.moveI rfl trivial rfl rfl rfl ?_
      refine G.moveI rfl trivial rfl rfl rfl ?_
      refine G.add rfl trivial rfl rfl rfl rfl (by omega) ?_
      refine G.assignI rfl trivial rfl rfl rfl ?_
      refine G.assignI rfl trivial rfl rfl rfl ?_
      refine G.assignI rfl trivial rfl rfl rfl ?_
      refine G.nil ?_
      refine C.ret ?_
      -- end c2Fg34F
      exact ⟨rfl, _, Res.of (rs := [.tmp 2, .tmp 3, .tmp 4]) rfl rfl, rfl, by rw [hnl2]; rfl⟩
theorem equal_spec (a b : Option Addr) (c d l m : Nat) (xs ys : List UInt8) (hl : l = xs.length) (hm : m = ys.length) (hr : Rd W0 L a (bytesV xs)) (hs : Rd W0 L b (bytesV ys)) :
    FnS Try.prog W0 31 #[.slice a l c, .slice b m d] L (fun e L' => L' = L ∧ e = .returned (.bool (decide (xs = ys)))) := by
  refine FnS.of (args := [.slice a l c, .slice b m d]) Try.func31 rfl rfl ?_
  refine C.seq ?_
  refine C.region ?_
  refine G.assignB rfl trivial rfl rfl rfl ?_
  refine G.nil ?_
  refine C.seq ?_
  refine C.region ?_
  refine G.moveS rfl trivial rfl rfl rfl ?_
  refine G.bytesStr xs rfl trivial rfl rfl Try.underlying34 Try.underlying5 Try.underlying9 rfl hl hr ?_
  refine G.moveS rfl trivial rfl rfl rfl ?_
  refine G.bytesStr ys rfl trivial rfl rfl Try.underlying34 Try.underlying5 Try.underlying9 rfl hm hs ?_
  refine G.strEq rfl trivial rfl rfl  rfl rfl ?_
  refine G.assignB rfl trivial rfl rfl rfl ?_
  refine G.nil ?_
  refine C.ret ?_
  -- end 
  exact ⟨rfl, _, Res.of (rs := [.tmp 4]) rfl rfl, rfl, by congr 2; show Value.bool (decide _) = _; congr 1; rw [decide_eq_decide]; exact strB_inj⟩
end
end Go.Proofs.Ytjfjmhmfhkdcbab
