/-
  The page that says which are in use: its bits, plainly; the functions of alloc walked.
-/
import Derived.Test.YtoegcjgdaikfiaaAl1
namespace Go.Proofs.Ytoegcjgdaikfiaa
open Go Go.SL Go.RowKit

/-! ### Bits of a byte -/
def ub (x : UInt8) (i : Nat) : Bool := x.toNat.testBit i
def orB (x : UInt8) (j : Nat) : UInt8 := UInt8.ofBitVec (x.toBitVec ||| BitVec.ofNat 8 (2 ^ j))
def clB (x : UInt8) (j : Nat) : UInt8 := UInt8.ofBitVec (x.toBitVec &&& ~~~ BitVec.ofNat 8 (2 ^ j))
theorem pow_bit {i j : Nat} (hj : j < 8) (hi : i < 8) : (BitVec.ofNat 8 (2 ^ j)).getLsbD i = decide (i = j) := by
  rw [BitVec.getLsbD_ofNat, Nat.testBit_two_pow, decide_eq_true hi, Bool.true_and]
  exact decide_eq_decide.2 ⟨fun h => h.symm, fun h => h.symm⟩
theorem ub_or (x : UInt8) {i j : Nat} (hj : j < 8) (hi : i < 8) : ub (orB x j) i = (ub x i || decide (i = j)) := by
  show (x.toBitVec ||| BitVec.ofNat 8 (2 ^ j)).getLsbD i = _
  rw [BitVec.getLsbD_or, pow_bit hj hi]
  rfl
theorem ub_cl (x : UInt8) {i j : Nat} (hj : j < 8) (hi : i < 8) : ub (clB x j) i = (ub x i && !decide (i = j)) := by
  show (x.toBitVec &&& ~~~ BitVec.ofNat 8 (2 ^ j)).getLsbD i = _
  rw [BitVec.getLsbD_and, BitVec.getLsbD_not, pow_bit hj hi, decide_eq_true hi, Bool.true_and]
  rfl
theorem w8 (x : BitVec 8) : IntKind.u8.wrap (x.toNat : Int) = x.toNat := by
  have := x.isLt
  exact wrap_in .u8 (by simp [IntKind.min, IntKind.max, IntKind.bits, IntKind.signed]; omega)
theorem of8 (x : UInt8) : BitVec.ofInt 8 (x.toNat : Int) = x.toBitVec := by
  rw [BitVec.ofInt_natCast]
  exact BitVec.eq_of_toNat_eq (by rw [BitVec.toNat_ofNat, Nat.mod_eq_of_lt x.toNat_lt]; rfl)
theorem shl_bit {j : Nat} (h : j < 8) : Value.int .u8 (IntKind.u8.wrap (1 * 2 ^ (min (j : Int).toNat IntKind.u8.bits))) = .int .u8 ((2 ^ j : Nat) : Int) := by
  match j, h with
  | 0, _ | 1, _ | 2, _ | 3, _ | 4, _ | 5, _ | 6, _ | 7, _ => rfl
theorem or_val (x : UInt8) (j : Nat) : Value.int .u8 (IntKind.u8.wrap (BitVec.ofInt 8 (x.toNat : Int) ||| BitVec.ofInt 8 ((2 ^ j : Nat) : Int)).toNat) = .int .u8 ((orB x j).toNat : Int) := by
  rw [w8, of8, BitVec.ofInt_natCast]
  rfl
theorem cl_val (x : UInt8) (j : Nat) : Value.int .u8 (IntKind.u8.wrap (BitVec.ofInt 8 (x.toNat : Int) &&& ~~~ BitVec.ofInt 8 ((2 ^ j : Nat) : Int)).toNat) = .int .u8 ((clB x j).toNat : Int) := by
  rw [w8, of8, BitVec.ofInt_natCast]
  rfl
theorem and_val (x : UInt8) {j : Nat} (h : j < 8) : Value.int .u8 (IntKind.u8.wrap (BitVec.ofInt 8 ((x.toNat : Int).fdiv (2 ^ (min (j : Int).toNat IntKind.u8.bits))) &&& BitVec.ofInt 8 1).toNat) = .int .u8 (if ub x j then 1 else 0) := by
  rw [w8, show min (j : Int).toNat IntKind.u8.bits = j by show min (j : Int).toNat 8 = j; omega, show (2 : Int) ^ j = ((2 ^ j : Nat) : Int) by simp, Int.fdiv_eq_ediv_of_nonneg _ (Int.natCast_nonneg _), ← Int.natCast_ediv, BitVec.ofInt_natCast]
  have hx := x.toNat_lt
  have h2 : (BitVec.ofNat 8 (x.toNat / 2 ^ j) &&& BitVec.ofInt 8 1).toNat = x.toNat / 2 ^ j % 2 := by
    rw [BitVec.toNat_and, BitVec.toNat_ofNat, Nat.mod_eq_of_lt (Nat.lt_of_le_of_lt (Nat.div_le_self _ _) hx)]
    exact Nat.and_one_is_mod _
  rw [h2]
  unfold ub
  rw [Nat.testBit_eq_decide_div_mod_eq]
  rcases Nat.mod_two_eq_zero_or_one (x.toNat / 2 ^ j) with h3 | h3
  · rw [h3]; rfl
  · rw [h3]; rfl
/-! ### The page's bits -/
def usedP (pb : List UInt8) (k : Nat) : Bool := ub (pb[k / 8]?.getD 0) (k % 8)
def hasB (pb : List UInt8) (no : Int) : Bool := decide (2 ≤ no ∧ no < 32) && usedP pb no.toNat
def setU (pb : List UInt8) (k : Nat) : List UInt8 := pb.set (k / 8) (orB (pb[k / 8]?.getD 0) (k % 8))
def clrU (pb : List UInt8) (k : Nat) : List UInt8 := pb.set (k / 8) (clB (pb[k / 8]?.getD 0) (k % 8))
theorem usedP_set {pb : List UInt8} (h : pb.length = 256) {k i : Nat} (hk : k < 32) (hi : i < 32) : usedP (setU pb k) i = (usedP pb i || decide (i = k)) := by
  unfold usedP setU
  rw [List.getElem?_set]
  by_cases e : k / 8 = i / 8
  · rw [if_pos e, if_pos (by omega), Option.getD_some, ub_or _ (Nat.mod_lt _ (by decide)) (Nat.mod_lt _ (by decide)), e]
    congr 1
    exact decide_eq_decide.2 (by omega)
  · rw [if_neg e, show decide (i = k) = false from decide_eq_false (by omega), Bool.or_false]
theorem usedP_clr {pb : List UInt8} (h : pb.length = 256) {k i : Nat} (hk : k < 32) (hi : i < 32) : usedP (clrU pb k) i = (usedP pb i && !decide (i = k)) := by
  unfold usedP clrU
  rw [List.getElem?_set]
  by_cases e : k / 8 = i / 8
  · rw [if_pos e, if_pos (by omega), Option.getD_some, ub_cl _ (Nat.mod_lt _ (by decide)) (Nat.mod_lt _ (by decide)), e]
    congr 2
    exact decide_eq_decide.2 (by omega)
  · rw [if_neg e, show decide (i = k) = false from decide_eq_false (by omega)]
    simp
theorem setU_length (pb : List UInt8) (k : Nat) : (setU pb k).length = pb.length := by simp [setU]
theorem clrU_length (pb : List UInt8) (k : Nat) : (clrU pb k).length = pb.length := by simp [clrU]
theorem byte_at {pb : List UInt8} (h : pb.length = 256) {k : Nat} (hk : k < 32) : (bytesV pb)[k / 8]? = some (.int .u8 ((pb[k / 8]?.getD 0).toNat : Int)) := by
  rw [bytesV_at (by omega), List.getElem?_eq_getElem (by omega)]
  rfl
section alloc
variable (W0 : World) (S L0 : List Seg) (bs : Nat)
theorem is_spec (L : List Seg) (no : Int) : FnS Try.prog W0 23 #[.int .i64 no] L (fun e L' => L' = L ∧ e = .returned (.bool (decide (2 ≤ no ∧ no < 32)))) := by
  refine FnS.of (args := [.int .i64 no]) Try.func23 rfl rfl ?_
  refine C.seq ?_
  refine C.region ?_
  refine G.assignB rfl trivial rfl rfl rfl ?_
  refine G.nil ?_
  refine C.seq ?_
  refine C.region ?_
  refine G.moveI rfl trivial rfl rfl rfl ?_
  refine G.bin rfl trivial rfl rfl rfl rfl rfl ?_
  refine G.moveB rfl trivial rfl rfl rfl ?_
  refine G.fork (t := 5) _ rfl ?_ ?_
  · intro hg5
    refine G.moveI rfl ⟨_, rfl, rfl, rfl⟩ rfl rfl rfl ?_
    refine G.bin rfl ⟨_, rfl, rfl, rfl⟩ rfl rfl rfl rfl rfl ?_
    first | refine G.pickT rfl trivial rfl rfl rfl rfl ?_ | refine G.pickF rfl trivial rfl rfl rfl rfl ?_
    refine G.assignB rfl trivial rfl rfl rfl ?_
    refine G.nil ?_
    refine C.ret ?_
    -- end g5T
    exact ⟨rfl, _, Res.of (rs := [.tmp 2]) rfl rfl, rfl, by congr 2; show Value.bool (decide (no < 32)) = _; congr 1; rw [decide_eq_decide]; omega⟩
  · intro hg5
    refine G.skip rfl rfl rfl rfl rfl rfl ?_
    refine G.skip rfl rfl rfl rfl rfl rfl ?_
    first | refine G.pickT rfl trivial rfl rfl rfl rfl ?_ | refine G.pickF rfl trivial rfl rfl rfl rfl ?_
    refine G.assignB rfl trivial rfl rfl rfl ?_
    refine G.nil ?_
    refine C.ret ?_
    -- end g5F
    exact ⟨rfl, _, Res.of (rs := [.tmp 2]) rfl rfl, rfl, by rw [show decide (2 ≤ no ∧ no < 32) = false from decide_eq_false (by omega)]; rfl⟩
theorem has_spec (L : List Seg) (a : Option Addr) (m c : Nat) (pb : List UInt8) (hm : m = 256) (hp : pb.length = 256) (hr : Rd W0 L a (bytesV pb)) (no : Int) : FnS Try.prog W0 20 #[.slice a m c, .int .i64 no] L (fun e L' => L' = L ∧ e = .returned (.bool (hasB pb no))) := by
  subst hm
  obtain ⟨p, o, rfl, _⟩ := hr.some_ (by rw [bytesV_length]; omega)
  refine FnS.of (args := [.slice (some ⟨p, o, none⟩) 256 c, .int .i64 no]) Try.func20 rfl rfl ?_
  refine C.seq ?_
  refine C.region ?_
  refine G.assignB rfl trivial rfl rfl rfl ?_
  refine G.nil ?_
  refine C.seq ?_
  refine C.region ?_
  refine G.moveI rfl trivial rfl rfl rfl ?_
  refine G.call E23 rfl rfl trivial rfl rfl (is_spec W0 _ no) rfl ?_
  rintro e L2 ⟨rfl, rfl⟩
  refine G.moveB rfl trivial rfl rfl rfl ?_
  refine G.fork (t := 7) _ rfl ?_ ?_
  · intro hg7
    refine G.moveS rfl ⟨_, rfl, rfl, rfl⟩ rfl rfl rfl ?_
    refine G.moveI rfl ⟨_, rfl, rfl, rfl⟩ rfl rfl rfl ?_
    obtain ⟨k, rfl⟩ : ∃ k : Nat, no = k := ⟨no.toNat, by omega⟩
    refine G.quo rfl ⟨_, rfl, rfl, rfl⟩ rfl rfl rfl rfl (by decide) ?_
    rw [show IntKind.i64.wrap ((k : Int).tdiv 8) = ((k / 8 : Nat) : Int) by rw [Int.tdiv_eq_ediv_of_nonneg (by omega), wrap_i64 (by omega)]; omega]
    refine G.indexAddr rfl ⟨_, rfl, rfl, rfl⟩ rfl rfl Try.underlying25 I5 rfl rfl (by omega) ?_
    refine G.fix (d := 11) (v := .pointer (some ⟨p, o + k / 8, none⟩)) (by show Value.pointer (some ⟨p, o + ((k / 8 : Nat) : Int).toNat * 1, none⟩) = _; rw [Int.toNat_natCast, Nat.mul_one]) ?_
    refine G.load (v := .int .u8 ((pb[k / 8]?.getD 0).toNat : Int)) rfl ⟨_, rfl, rfl, rfl⟩ rfl rfl Try.underlying5 rfl rfl (fun w hm => by have h := Rd.cell_at (j := k / 8) hr (by rw [bytesV_length]; omega) w hm; rw [byte_at hp (by omega)] at h; exact h) ?_
    refine G.moveI rfl ⟨_, rfl, rfl, rfl⟩ rfl rfl rfl ?_
    refine G.rem rfl ⟨_, rfl, rfl, rfl⟩ rfl rfl rfl rfl (by decide) ?_
    rw [show (k : Int).tmod 8 = ((k % 8 : Nat) : Int) by rw [Int.tmod_eq_emod_of_nonneg (by omega)]; omega]
    refine G.shr rfl ⟨_, rfl, rfl, rfl⟩ rfl rfl rfl rfl (by omega) ?_
    refine G.bin rfl ⟨_, rfl, rfl, rfl⟩ rfl rfl rfl rfl rfl ?_
    refine G.fix (d := 16) (v := .int .u8 (if ub (pb[k / 8]?.getD 0) (k % 8) then 1 else 0)) (and_val _ (Nat.mod_lt _ (by decide))) ?_
    refine G.bin rfl ⟨_, rfl, rfl, rfl⟩ rfl rfl rfl rfl rfl ?_
    refine G.fix (d := 17) (v := .bool (usedP pb k)) (by show Value.bool (decide ((if ub (pb[k / 8]?.getD 0) (k % 8) then (1 : Int) else 0) = 1)) = _; unfold usedP; cases ub (pb[k / 8]?.getD 0) (k % 8) <;> rfl) ?_
    first | refine G.pickT rfl trivial rfl rfl rfl rfl ?_ | refine G.pickF rfl trivial rfl rfl rfl rfl ?_
    refine G.assignB rfl trivial rfl rfl rfl ?_
    refine G.nil ?_
    refine C.ret ?_
    -- end g7T
    exact ⟨rfl, _, Res.of (rs := [.tmp 4]) rfl rfl, rfl, by unfold hasB; rw [decide_eq_true hg7, Bool.true_and]; rfl⟩
  · intro hg7
    refine G.skip rfl rfl rfl rfl rfl rfl ?_
    refine G.skip rfl rfl rfl rfl rfl rfl ?_
    refine G.skip rfl rfl rfl rfl rfl rfl ?_
    refine G.skip rfl rfl rfl rfl rfl rfl ?_
    refine G.skip rfl rfl rfl rfl rfl rfl ?_
    refine G.skip rfl rfl rfl rfl rfl rfl ?_
    refine G.skip rfl rfl rfl rfl rfl rfl ?_
    refine G.skip rfl rfl rfl rfl rfl rfl ?_
    refine G.skip rfl rfl rfl rfl rfl rfl ?_
    refine G.skip rfl rfl rfl rfl rfl rfl ?_
    first | refine G.pickT rfl trivial rfl rfl rfl rfl ?_ | refine G.pickF rfl trivial rfl rfl rfl rfl ?_
    refine G.assignB rfl trivial rfl rfl rfl ?_
    refine G.nil ?_
    refine C.ret ?_
    -- end g7F
    exact ⟨rfl, _, Res.of (rs := [.tmp 4]) rfl rfl, rfl, by unfold hasB; rw [decide_eq_false hg7, Bool.false_and]; rfl⟩
/-- what reading the page is asked to come to -/
def ReadsP (W0 : World) (p : Value) (L : List Seg) (pb : List UInt8) : Prop :=
  FnS Try.prog W0 19 #[p] L (fun e L' => ∃ v seg, OwnS v 256 (bytesV pb) 5 1 seg ∧ L' = seg :: L ∧ e = .returned (.tuple #[v, .int .i64 0]))
theorem aread_sheet {q : Bk} (pg : Nat → List UInt8) (sg : Seg) (hsg : Sh q bs pg sg) : ReadsP W0 (.iface 29 (ptr bs)) (S ++ (sg :: L0)) (pg 1) := by
  unfold ReadsP
  refine FnS.of (args := [.iface 29 (ptr bs)]) Try.func19 rfl rfl ?_
  refine C.seq ?_
  refine C.region ?_
  refine G.assignS rfl trivial rfl rfl rfl ?_
  refine G.assignI rfl trivial rfl rfl rfl ?_
  refine G.nil ?_
  refine C.seq ?_
  refine C.seq ?_
  refine C.region ?_
  first | refine G.moveW rfl trivial rfl rfl rfl ?_ | refine G.move .nilIface rfl trivial rfl rfl rfl ?_
  refine G.ifEq rfl trivial rfl rfl Try.underlying53 rfl rfl ?_
  refine G.fix (d := 7) (v := .bool false) rfl ?_
  refine G.nil ?_
  refine C.condF rfl ?_
  refine C.skip ?_
  refine C.seq ?_
  refine C.region ?_
  first | refine G.moveW rfl trivial rfl rfl rfl ?_ | refine G.move .nilIface rfl trivial rfl rfl rfl ?_
  refine G.invokeP E11 (MethP.of (by kernel_rfl) Try.underlying29) rfl rfl rfl trivial rfl rfl (spage_spec W0 S L0 bs pg sg hsg 1 (by decide)) rfl ?_
  rintro e L2 ⟨v10, s10, hv10, rfl, rfl⟩
  obtain ⟨a10, c10, rfl, _⟩ := hv10.form
  refine G.moveU rfl trivial rfl rfl rfl ?_
  refine G.extractL rfl trivial rfl rfl rfl rfl ?_
  refine G.extractL rfl trivial rfl rfl rfl rfl ?_
  refine G.assignS rfl trivial rfl rfl rfl ?_
  refine G.assignI rfl trivial rfl rfl rfl ?_
  refine G.nil ?_
  refine C.seq ?_
  refine C.block ?_
  refine C.seq ?_
  refine C.region ?_
  refine G.moveI rfl trivial rfl rfl rfl ?_
  refine G.bin rfl trivial rfl rfl rfl rfl rfl ?_
  refine G.assignB rfl trivial rfl rfl rfl ?_
  refine G.nil ?_
  refine C.no rfl (by simp) ?_
  refine C.seq ?_
  refine C.region ?_
  refine G.moveS rfl trivial rfl rfl rfl ?_
  refine G.lenSlice rfl trivial rfl rfl Try.underlying25 rfl ?_
  refine G.bin rfl trivial rfl rfl rfl rfl rfl ?_
  refine G.assignB rfl trivial rfl rfl rfl ?_
  refine G.nil ?_
  refine C.no rfl (by simp) ?_
  refine C.skip ?_
  refine C.seq ?_
  refine C.region ?_
  refine G.moveS rfl trivial rfl rfl rfl ?_
  refine G.assignS rfl trivial rfl rfl rfl ?_
  refine G.assignI rfl trivial rfl rfl rfl ?_
  refine G.nil ?_
  refine C.ret ?_
  -- end 
  exact ⟨rfl, _, Res.of (rs := [.tmp 2, .tmp 3]) rfl rfl, _, s10, hv10, rfl, rfl⟩
theorem aread_book (L : List Seg) (bb : Nat) (q : Bk) (hq : q.ok) (u : Nat → SObj → List Seg) (ha : At L bb (.row (bkRow q) 28 97) u) (hr : ∀ b xs, q = some (b, xs) → Rd W0 L (some ⟨b, 0, none⟩) (bytesV xs)) : ReadsP W0 (.iface 24 (ptr bb)) L (bkPage q 1) := by
  unfold ReadsP
  refine FnS.of (args := [.iface 24 (ptr bb)]) Try.func19 rfl rfl ?_
  refine C.seq ?_
  refine C.region ?_
  refine G.assignS rfl trivial rfl rfl rfl ?_
  refine G.assignI rfl trivial rfl rfl rfl ?_
  refine G.nil ?_
  refine C.seq ?_
  refine C.seq ?_
  refine C.region ?_
  first | refine G.moveW rfl trivial rfl rfl rfl ?_ | refine G.move .nilIface rfl trivial rfl rfl rfl ?_
  refine G.ifEq rfl trivial rfl rfl Try.underlying53 rfl rfl ?_
  refine G.fix (d := 7) (v := .bool false) rfl ?_
  refine G.nil ?_
  refine C.condF rfl ?_
  refine C.skip ?_
  refine C.seq ?_
  refine C.region ?_
  first | refine G.moveW rfl trivial rfl rfl rfl ?_ | refine G.move .nilIface rfl trivial rfl rfl rfl ?_
  refine G.invokeP E67 (MethP.of (by kernel_rfl) Try.underlying24) rfl rfl rfl trivial rfl rfl (book_page W0 L bb q hq u ha hr 1 (by decide)) rfl ?_
  rintro e L2 ⟨v10, s10, hv10, rfl, rfl⟩
  obtain ⟨a10, c10, rfl, _⟩ := hv10.form
  refine G.moveU rfl trivial rfl rfl rfl ?_
  refine G.extractL rfl trivial rfl rfl rfl rfl ?_
  refine G.extractL rfl trivial rfl rfl rfl rfl ?_
  refine G.assignS rfl trivial rfl rfl rfl ?_
  refine G.assignI rfl trivial rfl rfl rfl ?_
  refine G.nil ?_
  refine C.seq ?_
  refine C.block ?_
  refine C.seq ?_
  refine C.region ?_
  refine G.moveI rfl trivial rfl rfl rfl ?_
  refine G.bin rfl trivial rfl rfl rfl rfl rfl ?_
  refine G.assignB rfl trivial rfl rfl rfl ?_
  refine G.nil ?_
  refine C.no rfl (by simp) ?_
  refine C.seq ?_
  refine C.region ?_
  refine G.moveS rfl trivial rfl rfl rfl ?_
  refine G.lenSlice rfl trivial rfl rfl Try.underlying25 rfl ?_
  refine G.bin rfl trivial rfl rfl rfl rfl rfl ?_
  refine G.assignB rfl trivial rfl rfl rfl ?_
  refine G.nil ?_
  refine C.no rfl (by simp) ?_
  refine C.skip ?_
  refine C.seq ?_
  refine C.region ?_
  refine G.moveS rfl trivial rfl rfl rfl ?_
  refine G.assignS rfl trivial rfl rfl rfl ?_
  refine G.assignI rfl trivial rfl rfl rfl ?_
  refine G.nil ?_
  refine C.ret ?_
  -- end 
  exact ⟨rfl, _, Res.of (rs := [.tmp 2, .tmp 3]) rfl rfl, _, s10, hv10, rfl, rfl⟩
theorem used_spec (L : List Seg) (t : TypeId) (x : Value) (pb : List UInt8) (hp : pb.length = 256) (hread : ReadsP W0 (.iface t x) L pb) (no : Int) :
    FnS Try.prog W0 15 #[.iface t x, .int .i64 no] L (fun e L' => L' = L ∧ e = .returned (.tuple #[.bool (hasB pb no), .int .i64 0])) := by
  refine FnS.of (args := [.iface t x, .int .i64 no]) Try.func15 rfl rfl ?_
  refine C.seq ?_
  refine C.region ?_
  refine G.assignB rfl trivial rfl rfl rfl ?_
  refine G.assignI rfl trivial rfl rfl rfl ?_
  refine G.nil ?_
  refine C.seq ?_
  refine C.region ?_
  first | refine G.moveW rfl trivial rfl rfl rfl ?_ | refine G.move .nilIface rfl trivial rfl rfl rfl ?_
  refine G.call E19 rfl rfl trivial rfl rfl hread rfl ?_
  rintro e L2 ⟨v10, s10, hv10, rfl, rfl⟩
  obtain ⟨a10, c10, rfl, hr10⟩ := hv10.form
  refine G.moveU rfl trivial rfl rfl rfl ?_
  refine G.extractL rfl trivial rfl rfl rfl rfl ?_
  refine G.extractL rfl trivial rfl rfl rfl rfl ?_
  refine G.assignS rfl trivial rfl rfl rfl ?_
  refine G.assignI rfl trivial rfl rfl rfl ?_
  refine G.nil ?_
  refine C.seq ?_
  refine C.seq ?_
  refine C.region ?_
  refine G.moveI rfl trivial rfl rfl rfl ?_
  refine G.bin rfl trivial rfl rfl rfl rfl rfl ?_
  refine G.nil ?_
  refine C.no rfl (by simp) ?_
  refine C.skip ?_
  refine C.seq ?_
  refine C.region ?_
  refine G.moveS rfl trivial rfl rfl rfl ?_
  refine G.moveI rfl trivial rfl rfl rfl ?_
  refine G.call E20 rfl rfl trivial rfl rfl (has_spec W0 _ a10 256 c10 pb rfl hp (hr10 _ _) no) rfl ?_
  rintro e L2 ⟨rfl, rfl⟩
  refine G.assignB rfl trivial rfl rfl rfl ?_
  refine G.assignI rfl trivial rfl rfl rfl ?_
  refine G.nil ?_
  refine C.less (fun _ h => h.tail) ?_
  refine C.ret ?_
  -- end 
  exact ⟨rfl, _, Res.of (rs := [.tmp 4, .tmp 5]) rfl rfl, rfl, rfl⟩
def rootP (pb : List UInt8) : Nat := (pb[4]?.getD 0).toNat
theorem root_spec (L : List Seg) (t : TypeId) (x : Value) (pb : List UInt8) (hp : pb.length = 256) (hread : ReadsP W0 (.iface t x) L pb) :
    FnS Try.prog W0 17 #[.iface t x] L (fun e L' => L' = L ∧ e = .returned (if rootP pb = 0 ∨ (2 ≤ rootP pb ∧ rootP pb < 32) then .tuple #[.int .i64 (rootP pb : Nat), .int .i64 0] else .tuple #[.int .i64 0, .int .i64 3])) := by
  have hx : rootP pb < 256 := (pb[4]?.getD 0).toNat_lt
  refine FnS.of (args := [.iface t x]) Try.func17 rfl rfl ?_
  refine C.seq ?_
  refine C.region ?_
  refine G.assignI rfl trivial rfl rfl rfl ?_
  refine G.assignI rfl trivial rfl rfl rfl ?_
  refine G.nil ?_
  refine C.seq ?_
  refine C.region ?_
  first | refine G.moveW rfl trivial rfl rfl rfl ?_ | refine G.move .nilIface rfl trivial rfl rfl rfl ?_
  refine G.call E19 rfl rfl trivial rfl rfl hread rfl ?_
  rintro e L2 ⟨v9, s9, hv9, rfl, rfl⟩
  obtain ⟨a9, c9, rfl, hr9⟩ := hv9.form
  obtain ⟨p9, o9, rfl, _⟩ := (hr9 W0 []).some_ (by rw [bytesV_length]; omega)
  refine G.moveU rfl trivial rfl rfl rfl ?_
  refine G.extractL rfl trivial rfl rfl rfl rfl ?_
  refine G.extractL rfl trivial rfl rfl rfl rfl ?_
  refine G.assignS rfl trivial rfl rfl rfl ?_
  refine G.assignI rfl trivial rfl rfl rfl ?_
  refine G.nil ?_
  refine C.seq ?_
  refine C.seq ?_
  refine C.region ?_
  refine G.moveI rfl trivial rfl rfl rfl ?_
  refine G.bin rfl trivial rfl rfl rfl rfl rfl ?_
  refine G.nil ?_
  refine C.no rfl (by simp) ?_
  refine C.skip ?_
  refine C.seq ?_
  refine C.region ?_
  refine G.moveS rfl trivial rfl rfl rfl ?_
  refine G.indexAddr rfl trivial rfl rfl Try.underlying25 I5 rfl rfl (by omega) ?_
  refine G.load (v := .int .u8 (rootP pb : Nat)) rfl trivial rfl rfl Try.underlying5 rfl rfl (fun w hm => by have h := Rd.cell_at (j := 4) (hr9 W0 _) (by rw [bytesV_length]; omega) w hm; rw [bytesV_at (by omega)] at h; unfold rootP; rw [List.getElem?_eq_getElem (by omega)]; exact h) ?_
  refine G.convInt rfl trivial rfl rfl Try.underlying5 Try.underlying3 rfl ?_
  refine G.fix (d := 18) (v := .int .i64 (rootP pb : Nat)) (by show Value.int .i64 _ = _; rw [wrap_i64 (by omega)]) ?_
  refine G.assignI rfl trivial rfl rfl rfl ?_
  refine G.nil ?_
  refine C.seq ?_
  refine C.seq ?_
  refine C.region ?_
  refine G.moveI rfl trivial rfl rfl rfl ?_
  refine G.bin rfl trivial rfl rfl rfl rfl rfl ?_
  refine G.moveB rfl trivial rfl rfl rfl ?_
  refine G.fork (t := 21) _ rfl ?_ ?_
  · intro hg21
    refine G.moveI rfl ⟨_, rfl, rfl, rfl⟩ rfl rfl rfl ?_
    refine G.call E23 rfl rfl ⟨_, rfl, rfl, rfl⟩ rfl rfl (is_spec W0 _ (rootP pb : Nat)) rfl ?_
    rintro e L2 ⟨rfl, rfl⟩
    first | refine G.notD rfl ⟨_, rfl, rfl, rfl⟩ rfl rfl rfl ?_ | refine G.not rfl ⟨_, rfl, rfl, rfl⟩ rfl rfl rfl ?_
    first | refine G.pickT rfl trivial rfl rfl rfl rfl ?_ | refine G.pickF rfl trivial rfl rfl rfl rfl ?_
    refine G.nil ?_
    refine C.cond _ rfl ?_ ?_
    · intro hc1
      refine C.seq ?_
      refine C.region ?_
      refine G.assignI rfl trivial rfl rfl rfl ?_
      refine G.assignI rfl trivial rfl rfl rfl ?_
      refine G.nil ?_
      refine C.less (fun _ h => h.tail) ?_
      refine C.ret ?_
      -- end g21Tc1T
      exact ⟨rfl, _, Res.of (rs := [.tmp 2, .tmp 3]) rfl rfl, rfl, by rw [if_neg (by omega)]; rfl⟩
    · intro hc1
      refine C.skip ?_
      refine C.seq ?_
      refine C.region ?_
      refine G.moveI rfl trivial rfl rfl rfl ?_
      refine G.assignI rfl trivial rfl rfl rfl ?_
      refine G.assignI rfl trivial rfl rfl rfl ?_
      refine G.nil ?_
      refine C.less (fun _ h => h.tail) ?_
      refine C.ret ?_
      -- end g21Tc1F
      exact ⟨rfl, _, Res.of (rs := [.tmp 2, .tmp 3]) rfl rfl, rfl, by rw [if_pos (by omega)]; rfl⟩
  · intro hg21
    refine G.skip rfl rfl rfl rfl rfl rfl ?_
    refine G.skip rfl rfl rfl rfl rfl rfl ?_
    refine G.skip rfl rfl rfl rfl rfl rfl ?_
    first | refine G.pickT rfl trivial rfl rfl rfl rfl ?_ | refine G.pickF rfl trivial rfl rfl rfl rfl ?_
    refine G.nil ?_
    refine C.condF rfl ?_
    refine C.skip ?_
    refine C.seq ?_
    refine C.region ?_
    refine G.moveI rfl trivial rfl rfl rfl ?_
    refine G.assignI rfl trivial rfl rfl rfl ?_
    refine G.assignI rfl trivial rfl rfl rfl ?_
    refine G.nil ?_
    refine C.less (fun _ h => h.tail) ?_
    refine C.ret ?_
    -- end g21F
    exact ⟨rfl, _, Res.of (rs := [.tmp 2, .tmp 3]) rfl rfl, rfl, by rw [if_pos (by omega)]; rfl⟩
end alloc
end Go.Proofs.Ytoegcjgdaikfiaa
