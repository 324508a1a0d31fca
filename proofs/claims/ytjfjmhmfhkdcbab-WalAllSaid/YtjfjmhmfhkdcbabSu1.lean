/-
  Two slots: numbers written and read, walked.
-/
import Derived.Test.YtjfjmhmfhkdcbabSu0
import Derived.Test.YtjfjmhmfhkdcbabDv5
import Derived.Test.YtjfjmhmfhkdcbabSL9
namespace Go.Proofs.Ytjfjmhmfhkdcbab
open Go Go.SL Go.RowKit

/-! ### A number into a row -/
def putX (cs b : List UInt8) (off lo : Nat) : List UInt8 := (List.range cs.length).map fun j => if lo ≤ j ∧ j < off + b.length then b[j - off]?.getD 0 else cs[j]?.getD 0
theorem putX_length (cs b : List UInt8) (off lo : Nat) : (putX cs b off lo).length = cs.length := by simp [putX]
theorem putX_at {cs b : List UInt8} {off lo j : Nat} (h : j < cs.length) : (putX cs b off lo)[j]? = some (if lo ≤ j ∧ j < off + b.length then b[j - off]?.getD 0 else cs[j]?.getD 0) := by
  simp only [putX, List.getElem?_map, List.getElem?_range h, Option.map_some]
theorem putX_start (cs b : List UInt8) (off : Nat) : putX cs b off (off + b.length) = cs := by
  apply List.ext_getElem?
  intro j
  by_cases h : j < cs.length
  · rw [putX_at h, if_neg (by omega), List.getElem?_eq_getElem h]
    rfl
  · rw [List.getElem?_eq_none (by rw [putX_length]; omega), List.getElem?_eq_none (by omega)]
theorem putX_step {cs b : List UInt8} {off lo : Nat} {c : UInt8} (h0 : off ≤ lo) (h1 : lo < off + b.length) (hc : b[lo - off]? = some c) : (putX cs b off (lo + 1)).set lo c = putX cs b off lo := by
  apply List.ext_getElem?
  intro j
  by_cases h : j < cs.length
  · rw [List.getElem?_set]
    by_cases e : lo = j
    · subst e
      rw [if_pos rfl, if_pos (by rw [putX_length]; exact h), putX_at h, if_pos (by omega), hc]
      rfl
    · rw [if_neg e, putX_at h, putX_at h]
      by_cases h2 : lo + 1 ≤ j ∧ j < off + b.length
      · rw [if_pos h2, if_pos (by omega)]
      · rw [if_neg h2, if_neg (by omega)]
  · rw [List.getElem?_eq_none (by rw [List.length_set, putX_length]; omega), List.getElem?_eq_none (by rw [putX_length]; omega)]
theorem putX_end {cs b : List UInt8} {off : Nat} (h : off + b.length ≤ cs.length) : putX cs b off off = cs.take off ++ b ++ cs.drop (off + b.length) := by
  apply List.ext_getElem?
  intro j
  by_cases hj : j < cs.length
  · rw [putX_at hj]
    by_cases h1 : j < off
    · rw [if_neg (by omega), List.append_assoc, List.getElem?_append_left (by rw [List.length_take]; omega), List.getElem?_take, if_pos h1, List.getElem?_eq_getElem hj]
      rfl
    · by_cases h2 : j < off + b.length
      · rw [if_pos (by omega), List.append_assoc, List.getElem?_append_right (by rw [List.length_take]; omega), List.length_take, show j - min off cs.length = j - off by omega, List.getElem?_append_left (by omega), List.getElem?_eq_getElem (by omega)]
        rfl
      · rw [if_neg (by omega), List.getElem?_append_right (by rw [List.length_append, List.length_take]; omega), List.length_append, List.length_take, List.getElem?_drop, show off + b.length + (j - (min off cs.length + b.length)) = j by omega, List.getElem?_eq_getElem hj]
        rfl
  · rw [List.getElem?_eq_none (by rw [putX_length]; omega), List.getElem?_eq_none (by simp; omega)]
theorem shr_byte (n i : Nat) (h : 8 * i < 64) : Value.int .u8 (IntKind.u8.wrap ((n : Int).fdiv (2 ^ (min (8 * (i : Int)).toNat 64)))) = .int .u8 ((UInt8.ofNat (n / 256 ^ i)).toNat : Int) := by
  rw [show (8 * (i : Int)).toNat = 8 * i by omega, Nat.min_eq_left (by omega), show (2 : Int) ^ (8 * i) = ((2 ^ (8 * i) : Nat) : Int) by simp, Nat.pow_mul, show (2 : Nat) ^ 8 = 256 from rfl]
  rw [Int.fdiv_eq_ediv_of_nonneg _ (Int.natCast_nonneg _), ← Int.natCast_ediv]
  exact u8_ofN _
theorem sput_spec (W0 : World) (L0 : List Seg) (bx kk off l c : Nat) (cs : List UInt8) (n : Nat) (hl : off + l ≤ cs.length) (h8 : l ≤ 8) :
    FnS Try.prog W0 46 #[.slice (some ⟨bx, off, none⟩) l c, .int .u64 (n : Int)] ([(bx, .row (bytesV cs) 5 kk)] :: L0) (fun e L' => L' = [(bx, .row (bytesV (cs.take off ++ be l n ++ cs.drop (off + l))) 5 kk)] :: L0 ∧ e = .returned (.tuple #[])) := by
  have hbl := be_length l n
  refine FnS.of (args := [.slice (some ⟨bx, off, none⟩) l c, .int .u64 (n : Int)]) Try.func46 rfl rfl ?_
  refine C.seq ?_
  refine C.region ?_
  refine G.moveS rfl trivial rfl rfl rfl ?_
  refine G.lenSlice rfl trivial rfl rfl Try.underlying34 rfl ?_
  refine G.moveI rfl trivial rfl rfl rfl ?_
  refine G.nil ?_
  refine C.block ?_
  refine C.loop (fun m F D' L' => ∃ i : Nat, i ≤ l ∧ m = l - i ∧ F 7 = .int .i64 i ∧ F 6 = .int .i64 (l : Nat) ∧ F 0 = .slice (some ⟨bx, off, none⟩) l c ∧ F 1 = .int .u64 (n : Int) ∧ D' = [] ∧ [(bx, .row (bytesV (putX cs (be l n) off (off + (l - i)))) 5 kk)] :: L0 = L') ⟨_, ⟨0, by omega, rfl, rfl, rfl, rfl, rfl, rfl, by rw [show off + (l - 0) = off + (be l n).length by rw [hbl]; rfl, putX_start]⟩⟩ ?_
  rintro m F D' L' ⟨i, hi, rfl, h7, h6, h0', h1', rfl, rfl⟩
  refine C.fix (d := 7) h7 ?_
  refine C.fix (d := 6) h6 ?_
  refine C.fix (d := 0) h0' ?_
  refine C.fix (d := 1) h1' ?_
  refine C.seq ?_
  refine C.region ?_
  refine G.bin rfl trivial rfl rfl rfl rfl rfl ?_
  refine G.nil ?_
  refine C.seq ?_
  refine C.cond _ rfl ?_ ?_
  · intro hc0
    have hlt : i < l := by omega
    refine C.skip ?_
    refine C.seq ?_
    refine C.block ?_
    refine C.seq ?_
    refine C.region ?_
    refine G.moveI rfl trivial rfl rfl rfl ?_
    refine G.assignI rfl trivial rfl rfl rfl ?_
    refine G.nil ?_
    refine C.region ?_
    refine G.moveS rfl trivial rfl rfl rfl ?_
    refine G.moveS rfl trivial rfl rfl rfl ?_
    refine G.lenSlice rfl trivial rfl rfl Try.underlying34 rfl ?_
    refine G.sub rfl trivial rfl rfl rfl rfl (by omega) ?_
    refine G.moveI rfl trivial rfl rfl rfl ?_
    refine G.sub rfl trivial rfl rfl rfl rfl (by omega) ?_
    refine G.fix (d := 15) (v := .int .i64 ((l - 1 - i : Nat) : Int)) (by show Value.int .i64 _ = _; congr 1; omega) ?_
    refine G.moveI rfl trivial rfl rfl rfl ?_
    refine G.moveI rfl trivial rfl rfl rfl ?_
    refine G.mul rfl trivial rfl rfl rfl rfl (by omega) ?_
    refine G.shr rfl trivial rfl rfl rfl rfl (by omega) ?_
    refine G.convInt rfl trivial rfl rfl Try.underlying90 Try.underlying5 rfl ?_
    refine G.fix (d := 20) (v := .int .u8 ((UInt8.ofNat (n / 256 ^ i)).toNat : Int)) (shr_byte n i (by omega)) ?_
    refine G.indexAddr rfl trivial rfl rfl Try.underlying34 I5 rfl rfl (by omega) ?_
    refine G.store (v := .int .u8 ((UInt8.ofNat (n / 256 ^ i)).toNat : Int)) .here rfl trivial rfl I5 rfl rfl rfl (by rw [bytesV_length, putX_length]; omega) (bytesV (putX cs (be l n) off (off + (l - (i + 1))))) (by rw [show off + ((l - 1 - i : Nat) : Int).toNat * 1 = off + (l - (i + 1)) by omega, bytesV_set, show off + (l - i) = off + (l - (i + 1)) + 1 by omega, putX_step (by omega) (by omega) (by rw [show off + (l - (i + 1)) - off = l - 1 - i by omega]; exact be_at hlt)]) ?_
    refine G.nil ?_
    refine C.region ?_
    refine G.add rfl trivial rfl rfl rfl rfl (by omega) ?_
    refine G.moveI rfl trivial rfl rfl rfl ?_
    refine G.nil ?_
    exact ⟨l - (i + 1), by omega, i + 1, by omega, rfl, rfl, rfl, rfl, rfl, rfl, rfl⟩
  · intro hc0
    obtain rfl : i = l := by omega
    rw [show off + (i - i) = off by omega, putX_end (by rw [hbl]; exact hl), hbl]
    refine C.exit ?_
    -- end c0F
    exact ⟨rfl, _, Res.of (rs := []) rfl rfl, rfl, rfl⟩
/-! ### A number out of bytes -/
theorem shl_or (s : Nat) (x : UInt8) (h : s < 256 ^ 7) : IntKind.u64.wrap ((BitVec.ofInt 64 (IntKind.u64.wrap ((s : Int) * 2 ^ (min (8 : Int).toNat 64))) ||| BitVec.ofInt 64 (IntKind.u64.wrap (x.toNat : Int))).toNat) = ((s * 256 + x.toNat : Nat) : Int) := by
  have hx := x.toNat_lt
  have e1 : IntKind.u64.wrap ((s : Int) * 2 ^ (min (8 : Int).toNat 64)) = ((s * 256 : Nat) : Int) := by
    rw [show (2 : Int) ^ (min (8 : Int).toNat 64) = 256 from rfl]
    rw [wrap_in .u64 (by simp [IntKind.min, IntKind.max, IntKind.bits, IntKind.signed]; omega)]
    omega
  have e2 : IntKind.u64.wrap (x.toNat : Int) = ((x.toNat : Nat) : Int) := wrap_in .u64 (by simp [IntKind.min, IntKind.max, IntKind.bits, IntKind.signed]; omega)
  have e3 : (BitVec.ofInt 64 ((s * 256 : Nat) : Int) ||| BitVec.ofInt 64 ((x.toNat : Nat) : Int)).toNat = s * 256 + x.toNat := by
    rw [BitVec.toNat_or, BitVec.ofInt_natCast, BitVec.ofInt_natCast, BitVec.toNat_ofNat, BitVec.toNat_ofNat, Nat.mod_eq_of_lt (by omega), Nat.mod_eq_of_lt (by omega)]
    have h1 := Nat.two_pow_add_eq_or_of_lt (i := 8) (b := x.toNat) hx s
    rw [show 2 ^ 8 * s = s * 256 by omega] at h1
    exact h1.symm
  rw [e1, e2, e3]
  exact wrap_in .u64 (by simp [IntKind.min, IntKind.max, IntKind.bits, IntKind.signed]; omega)
theorem beFrom_append (xs ys : List UInt8) (s : Nat) : beFrom s (xs ++ ys) = beFrom (beFrom s xs) ys := by simp [beFrom]
theorem sget_spec (W0 : World) (L : List Seg) (a : Option Addr) (c : Nat) (xs : List UInt8) {l : Nat} (hl : l = xs.length) (h8 : xs.length ≤ 8) (hr : Rd W0 L a (bytesV xs)) :
    FnS Try.prog W0 41 #[.slice a l c] L (fun e L' => L' = L ∧ e = .returned (.int .u64 (beVal xs : Nat))) := by
  subst hl
  refine FnS.of (args := [.slice a xs.length c]) Try.func41 rfl rfl ?_
  refine C.seq ?_
  refine C.region ?_
  refine G.assignI rfl trivial rfl rfl rfl ?_
  refine G.nil ?_
  refine C.seq ?_
  refine C.region ?_
  refine G.assignI rfl trivial rfl rfl rfl ?_
  refine G.nil ?_
  refine C.seq ?_
  refine C.seq ?_
  refine C.region ?_
  refine G.moveS rfl trivial rfl rfl rfl ?_
  refine G.lenSlice rfl trivial rfl rfl Try.underlying34 rfl ?_
  refine G.moveI rfl trivial rfl rfl rfl ?_
  refine G.nil ?_
  refine C.block ?_
  refine C.loop (fun m F D' L' => ∃ i : Nat, i ≤ xs.length ∧ m = xs.length - i ∧ F 8 = .int .i64 i ∧ F 7 = .int .i64 (xs.length : Nat) ∧ F 6 = .slice a xs.length c ∧ F 3 = .int .u64 (beVal (xs.take i) : Nat) ∧ D' = [] ∧ L = L') ⟨_, ⟨0, by omega, rfl, rfl, rfl, rfl, rfl, rfl, rfl⟩⟩ ?_
  rintro m F D' L' ⟨i, hi, rfl, h8', h7, h6, h3, rfl, rfl⟩
  refine C.fix (d := 8) h8' ?_
  refine C.fix (d := 7) h7 ?_
  refine C.fix (d := 6) h6 ?_
  refine C.fix (d := 3) h3 ?_
  refine C.seq ?_
  refine C.region ?_
  refine G.bin rfl trivial rfl rfl rfl rfl rfl ?_
  refine G.nil ?_
  refine C.seq ?_
  refine C.cond _ rfl ?_ ?_
  · intro hc0
    have hlt : i < xs.length := by omega
    obtain ⟨p, q, rfl, _⟩ := hr.some_ (by simp; omega)
    have hb : beVal (xs.take i) < 256 ^ 7 := by
      have h1 := beVal_lt (xs.take i)
      refine Nat.lt_of_lt_of_le h1 (Nat.pow_le_pow_right (by decide) (by rw [List.length_take]; omega))
    refine C.skip ?_
    refine C.seq ?_
    refine C.block ?_
    refine C.seq ?_
    refine C.region ?_
    refine G.indexAddr rfl trivial rfl rfl Try.underlying34 I5 rfl rfl (by omega) ?_
    refine G.load (v := .int .u8 (xs[i].toNat : Int)) rfl trivial rfl rfl Try.underlying5 rfl rfl (fun w hm => by have h := Rd.cell_at (j := i) hr (by simpa using hlt) w hm; rw [bytesV_at hlt] at h; simpa using h) ?_
    refine G.assignI rfl trivial rfl rfl rfl ?_
    refine G.nil ?_
    refine C.region ?_
    refine G.moveI rfl trivial rfl rfl rfl ?_
    refine G.shl rfl trivial rfl rfl rfl rfl (by omega) ?_
    refine G.moveI rfl trivial rfl rfl rfl ?_
    refine G.convInt rfl trivial rfl rfl Try.underlying5 Try.underlying90 rfl ?_
    refine G.bin rfl trivial rfl rfl rfl rfl rfl ?_
    refine G.fix (d := 16) (v := .int .u64 (beVal (xs.take (i + 1)) : Nat)) (by show Value.int .u64 _ = _; congr 1; rw [List.take_succ_eq_append_getElem hlt, show beVal (xs.take i ++ [xs[i]]) = beVal (xs.take i) * 256 + xs[i].toNat from by unfold beVal beFrom; rw [List.foldl_append]; rfl]; exact shl_or _ _ hb) ?_
    refine G.assignI rfl trivial rfl rfl rfl ?_
    refine G.nil ?_
    refine C.region ?_
    refine G.add rfl trivial rfl rfl rfl rfl (by omega) ?_
    refine G.moveI rfl trivial rfl rfl rfl ?_
    refine G.nil ?_
    exact ⟨xs.length - (i + 1), by omega, i + 1, by omega, rfl, rfl, rfl, rfl, rfl, rfl, rfl⟩
  · intro hc0
    obtain rfl : i = xs.length := by omega
    rw [List.take_length]
    refine C.exit ?_
    refine C.seq ?_
    refine C.region ?_
    refine G.moveI rfl trivial rfl rfl rfl ?_
    refine G.assignI rfl trivial rfl rfl rfl ?_
    refine G.nil ?_
    refine C.ret ?_
    -- end c0F
    exact ⟨rfl, _, Res.of (rs := [.tmp 2]) rfl rfl, rfl, rfl⟩
theorem there_spec (W0 : World) (S L0 : List Seg) (bd bl : Nat) (d : Dv) (hd : d.ok) (i : Int) : FnS Try.prog W0 33 #[ptr bd, .int .i64 i] (S ++ (devSeg bd bl d :: L0)) (fun e L' => L' = S ++ (devSeg bd bl d :: L0) ∧ e = .returned (.bool (decide (0 ≤ i ∧ i < (d.l.length : Int) - 1)))) := by
  have hlen := hd.2.1
  refine FnS.of (args := [ptr bd, .int .i64 i]) Try.func33 rfl rfl ?_
  refine C.seq ?_
  refine C.region ?_
  refine G.assignB rfl trivial rfl rfl rfl ?_
  refine G.nil ?_
  refine C.seq ?_
  refine C.region ?_
  refine G.moveI rfl trivial rfl rfl rfl ?_
  refine G.bin rfl trivial rfl rfl rfl rfl rfl ?_
  refine G.moveB rfl trivial rfl rfl rfl ?_
  refine G.fork (t := 7) _ rfl ?_ ?_
  · intro hg7
    refine G.moveI rfl ⟨_, rfl, rfl, rfl⟩ rfl rfl rfl ?_
    refine G.moveP rfl ⟨_, rfl, rfl, rfl⟩ rfl rfl rfl ?_
    refine G.call E19 rfl rfl ⟨_, rfl, rfl, rfl⟩ rfl rfl (len_spec W0 S L0 bd bl d) rfl ?_
    rintro e L2 ⟨rfl, rfl⟩
    refine G.sub rfl ⟨_, rfl, rfl, rfl⟩ rfl rfl rfl rfl (by omega) ?_
    refine G.bin rfl ⟨_, rfl, rfl, rfl⟩ rfl rfl rfl rfl rfl ?_
    first | refine G.pickT rfl trivial rfl rfl rfl rfl ?_ | refine G.pickF rfl trivial rfl rfl rfl rfl ?_
    refine G.assignB rfl trivial rfl rfl rfl ?_
    refine G.nil ?_
    refine C.ret ?_
    -- end g7T
    exact ⟨rfl, _, Res.of (rs := [.tmp 4]) rfl rfl, rfl, by congr 2; show Value.bool (decide _) = _; congr 1; rw [decide_eq_decide]; omega⟩
  · intro hg7
    refine G.skip rfl rfl rfl rfl rfl rfl ?_
    refine G.skip rfl rfl rfl rfl rfl rfl ?_
    refine G.skip rfl rfl rfl rfl rfl rfl ?_
    refine G.skip rfl rfl rfl rfl rfl rfl ?_
    refine G.skip rfl rfl rfl rfl rfl rfl ?_
    first | refine G.pickT rfl trivial rfl rfl rfl rfl ?_ | refine G.pickF rfl trivial rfl rfl rfl rfl ?_
    refine G.assignB rfl trivial rfl rfl rfl ?_
    refine G.nil ?_
    refine C.ret ?_
    -- end g7F
    exact ⟨rfl, _, Res.of (rs := [.tmp 4]) rfl rfl, rfl, by rw [show decide (0 ≤ i ∧ i < (d.l.length : Int) - 1) = false from decide_eq_false (by omega)]; rfl⟩
theorem there_nil (W0 : World) (L : List Seg) (i : Int) : FnS Try.prog W0 33 #[.pointer none, .int .i64 i] L (fun e L' => L' = L ∧ e = .returned (.bool false)) := by
  refine FnS.of (args := [.pointer none, .int .i64 i]) Try.func33 rfl rfl ?_
  refine C.seq ?_
  refine C.region ?_
  refine G.assignB rfl trivial rfl rfl rfl ?_
  refine G.nil ?_
  refine C.seq ?_
  refine C.region ?_
  refine G.moveI rfl trivial rfl rfl rfl ?_
  refine G.bin rfl trivial rfl rfl rfl rfl rfl ?_
  refine G.moveB rfl trivial rfl rfl rfl ?_
  refine G.fork (t := 7) _ rfl ?_ ?_
  · intro hg7
    refine G.moveI rfl ⟨_, rfl, rfl, rfl⟩ rfl rfl rfl ?_
    refine G.moveP rfl ⟨_, rfl, rfl, rfl⟩ rfl rfl rfl ?_
    refine G.call E19 rfl rfl ⟨_, rfl, rfl, rfl⟩ rfl rfl (len_nil W0 _) rfl ?_
    rintro e L2 ⟨rfl, rfl⟩
    refine G.sub rfl ⟨_, rfl, rfl, rfl⟩ rfl rfl rfl rfl (by omega) ?_
    refine G.bin rfl ⟨_, rfl, rfl, rfl⟩ rfl rfl rfl rfl rfl ?_
    first | refine G.pickT rfl trivial rfl rfl rfl rfl ?_ | refine G.pickF rfl trivial rfl rfl rfl rfl ?_
    refine G.assignB rfl trivial rfl rfl rfl ?_
    refine G.nil ?_
    refine C.ret ?_
    -- end g7T
    exact ⟨rfl, _, Res.of (rs := [.tmp 4]) rfl rfl, rfl, by congr 2; show Value.bool (decide _) = _; congr 1; exact decide_eq_false (by omega)⟩
  · intro hg7
    refine G.skip rfl rfl rfl rfl rfl rfl ?_
    refine G.skip rfl rfl rfl rfl rfl rfl ?_
    refine G.skip rfl rfl rfl rfl rfl rfl ?_
    refine G.skip rfl rfl rfl rfl rfl rfl ?_
    refine G.skip rfl rfl rfl rfl rfl rfl ?_
    first | refine G.pickT rfl trivial rfl rfl rfl rfl ?_ | refine G.pickF rfl trivial rfl rfl rfl rfl ?_
    refine G.assignB rfl trivial rfl rfl rfl ?_
    refine G.nil ?_
    refine C.ret ?_
    -- end g7F
    exact ⟨rfl, _, Res.of (rs := [.tmp 4]) rfl rfl, rfl, rfl⟩
end Go.Proofs.Ytjfjmhmfhkdcbab
