/-
  One rule for each operation of the model, over a heap that is told block by block (first part: numbers, slots, cells, addresses). No program in sight.
-/
import Derived.Test.YtjfjmhmfhkdcbabSL1
namespace Go.SL
open Go Go.RowKit

def Inf (P : Program) (t : TypeId) (size bytes : Nat) (zero : Value) : Prop := ∃ i, P.info? t = some i ∧ i.size = size ∧ i.bytes = bytes ∧ i.zero = some zero
theorem Inf.of {P : Program} {t : TypeId} {size bytes : Nat} {zero : Value} (h : (P.info? t).map (fun i => (i.size, i.bytes, i.zero)) = some (size, bytes, some zero)) : Inf P t size bytes zero := by
  cases hi : P.info? t with
  | none => rw [hi] at h; cases h
  | some i =>
    rw [hi] at h
    simp only [Option.map_some, Option.some.injEq, Prod.mk.injEq] at h
    exact ⟨i, hi, h.1, h.2.1, h.2.2⟩

section
variable {P : Program} {w : World}
theorem Inf.run_typeInfo {t : TypeId} {size bytes : Nat} {zero : Value} (h : Inf P t size bytes zero) : ∃ i, (typeInfo t).run P w = .ok i w ∧ i.size = size ∧ i.bytes = bytes ∧ i.zero = some zero := by
  obtain ⟨i, h1, h2⟩ := h
  exact ⟨i, by simp [typeInfo, h1], h2⟩
theorem Inf.run_size {t : TypeId} {size bytes : Nat} {zero : Value} (h : Inf P t size bytes zero) : (sizeOf t).run P w = .ok size w := by
  obtain ⟨i, h1, h2, h3⟩ := h
  simp [sizeOf, typeInfo, h1, h2]
theorem Inf.run_zero {t : TypeId} {size bytes : Nat} {zero : Value} (h : Inf P t size bytes zero) : (zeroValue t).run P w = .ok zero w := by
  obtain ⟨i, h1, h2, h3, h4⟩ := h
  simp [zeroValue, typeInfo, h1, h4]
end

/-! ### Values of whole numbers -/
def binI (op : BinOp) (k : IntKind) (a b : Int) : Option Value :=
  match op with
  | .add => some (.int k (k.wrap (a + b)))
  | .sub => some (.int k (k.wrap (a - b)))
  | .mul => some (.int k (k.wrap (a * b)))
  | .and => some (.int k (k.wrap (BitVec.ofInt k.bits a &&& BitVec.ofInt k.bits b).toNat))
  | .or => some (.int k (k.wrap (BitVec.ofInt k.bits a ||| BitVec.ofInt k.bits b).toNat))
  | .xor => some (.int k (k.wrap (BitVec.ofInt k.bits a ^^^ BitVec.ofInt k.bits b).toNat))
  | .andNot => some (.int k (k.wrap (BitVec.ofInt k.bits a &&& ~~~ BitVec.ofInt k.bits b).toNat))
  | .eql => some (.bool (decide (a = b)))
  | .neq => some (.bool (decide (¬ a = b)))
  | .lss => some (.bool (decide (a < b)))
  | .leq => some (.bool (decide (a ≤ b)))
  | .gtr => some (.bool (decide (b < a)))
  | .geq => some (.bool (decide (b ≤ a)))
  | _ => none

section rules
variable {P : Program} {W0 : World} {n : Nat} {SQ : SPost} {F : Nat → Value} {D : List Deferred} {L : List Seg} {ops : Array Oper} {rest : List Oper} {o : Oper}

/-- a copy, by the shape of what is copied -/
theorem G.mv {x : Operand} (v : Value) (ho : o.op = .move x ∨ o.op = .assign x) (hr : runs n ops F o) {d : Nat} (hd : o.dst = some d) (hn : Nat.blt d n = true) (hx : ev F x = v) (k : G P W0 n SQ ops rest (upd F d v) D L) : G P W0 n SQ ops (o :: rest) F D L :=
  G.val v hr hd hn (fun w _ => by rcases ho with ho | ho <;> simp [execOp, ho, hx]) k
theorem G.move {x : Operand} (v : Value) (ho : o.op = .move x) (hr : runs n ops F o) {d : Nat} (hd : o.dst = some d) (hn : Nat.blt d n = true) (hx : ev F x = v) (k : G P W0 n SQ ops rest (upd F d v) D L) : G P W0 n SQ ops (o :: rest) F D L := G.mv v (.inl ho) hr hd hn hx k
theorem G.assign {x : Operand} (v : Value) (ho : o.op = .assign x) (hr : runs n ops F o) {d : Nat} (hd : o.dst = some d) (hn : Nat.blt d n = true) (hx : ev F x = v) (k : G P W0 n SQ ops rest (upd F d v) D L) : G P W0 n SQ ops (o :: rest) F D L := G.mv v (.inr ho) hr hd hn hx k
theorem G.moveI {x : Operand} {kd : IntKind} {a : Int} (ho : o.op = .move x) (hr : runs n ops F o) {d : Nat} (hd : o.dst = some d) (hn : Nat.blt d n = true) (hx : ev F x = .int kd a) (k : G P W0 n SQ ops rest (upd F d (.int kd a)) D L) : G P W0 n SQ ops (o :: rest) F D L := G.mv _ (.inl ho) hr hd hn hx k
theorem G.assignI {x : Operand} {kd : IntKind} {a : Int} (ho : o.op = .assign x) (hr : runs n ops F o) {d : Nat} (hd : o.dst = some d) (hn : Nat.blt d n = true) (hx : ev F x = .int kd a) (k : G P W0 n SQ ops rest (upd F d (.int kd a)) D L) : G P W0 n SQ ops (o :: rest) F D L := G.mv _ (.inr ho) hr hd hn hx k
theorem G.moveB {x : Operand} {b : Bool} (ho : o.op = .move x) (hr : runs n ops F o) {d : Nat} (hd : o.dst = some d) (hn : Nat.blt d n = true) (hx : ev F x = .bool b) (k : G P W0 n SQ ops rest (upd F d (.bool b)) D L) : G P W0 n SQ ops (o :: rest) F D L := G.mv _ (.inl ho) hr hd hn hx k
theorem G.assignB {x : Operand} {b : Bool} (ho : o.op = .assign x) (hr : runs n ops F o) {d : Nat} (hd : o.dst = some d) (hn : Nat.blt d n = true) (hx : ev F x = .bool b) (k : G P W0 n SQ ops rest (upd F d (.bool b)) D L) : G P W0 n SQ ops (o :: rest) F D L := G.mv _ (.inr ho) hr hd hn hx k
theorem G.moveS {x : Operand} {a : Option Addr} {l c : Nat} (ho : o.op = .move x) (hr : runs n ops F o) {d : Nat} (hd : o.dst = some d) (hn : Nat.blt d n = true) (hx : ev F x = .slice a l c) (k : G P W0 n SQ ops rest (upd F d (.slice a l c)) D L) : G P W0 n SQ ops (o :: rest) F D L := G.mv _ (.inl ho) hr hd hn hx k
theorem G.assignS {x : Operand} {a : Option Addr} {l c : Nat} (ho : o.op = .assign x) (hr : runs n ops F o) {d : Nat} (hd : o.dst = some d) (hn : Nat.blt d n = true) (hx : ev F x = .slice a l c) (k : G P W0 n SQ ops rest (upd F d (.slice a l c)) D L) : G P W0 n SQ ops (o :: rest) F D L := G.mv _ (.inr ho) hr hd hn hx k
theorem G.moveP {x : Operand} {a : Option Addr} (ho : o.op = .move x) (hr : runs n ops F o) {d : Nat} (hd : o.dst = some d) (hn : Nat.blt d n = true) (hx : ev F x = .pointer a) (k : G P W0 n SQ ops rest (upd F d (.pointer a)) D L) : G P W0 n SQ ops (o :: rest) F D L := G.mv _ (.inl ho) hr hd hn hx k
theorem G.assignP {x : Operand} {a : Option Addr} (ho : o.op = .assign x) (hr : runs n ops F o) {d : Nat} (hd : o.dst = some d) (hn : Nat.blt d n = true) (hx : ev F x = .pointer a) (k : G P W0 n SQ ops rest (upd F d (.pointer a)) D L) : G P W0 n SQ ops (o :: rest) F D L := G.mv _ (.inr ho) hr hd hn hx k
theorem G.moveT {x : Operand} {s : ByteArray} (ho : o.op = .move x) (hr : runs n ops F o) {d : Nat} (hd : o.dst = some d) (hn : Nat.blt d n = true) (hx : ev F x = .string s) (k : G P W0 n SQ ops rest (upd F d (.string s)) D L) : G P W0 n SQ ops (o :: rest) F D L := G.mv _ (.inl ho) hr hd hn hx k
theorem G.assignT {x : Operand} {s : ByteArray} (ho : o.op = .assign x) (hr : runs n ops F o) {d : Nat} (hd : o.dst = some d) (hn : Nat.blt d n = true) (hx : ev F x = .string s) (k : G P W0 n SQ ops rest (upd F d (.string s)) D L) : G P W0 n SQ ops (o :: rest) F D L := G.mv _ (.inr ho) hr hd hn hx k
theorem G.moveU {x : Operand} {vs : Array Value} (ho : o.op = .move x) (hr : runs n ops F o) {d : Nat} (hd : o.dst = some d) (hn : Nat.blt d n = true) (hx : ev F x = .tuple vs) (k : G P W0 n SQ ops rest (upd F d (.tuple vs)) D L) : G P W0 n SQ ops (o :: rest) F D L := G.mv _ (.inl ho) hr hd hn hx k
theorem G.assignU {x : Operand} {vs : Array Value} (ho : o.op = .assign x) (hr : runs n ops F o) {d : Nat} (hd : o.dst = some d) (hn : Nat.blt d n = true) (hx : ev F x = .tuple vs) (k : G P W0 n SQ ops rest (upd F d (.tuple vs)) D L) : G P W0 n SQ ops (o :: rest) F D L := G.mv _ (.inr ho) hr hd hn hx k
theorem G.moveF {x : Operand} {fn : Fn} {vs us : Array Value} (ho : o.op = .move x) (hr : runs n ops F o) {d : Nat} (hd : o.dst = some d) (hn : Nat.blt d n = true) (hx : ev F x = .func fn vs us) (k : G P W0 n SQ ops rest (upd F d (.func fn vs us)) D L) : G P W0 n SQ ops (o :: rest) F D L := G.mv _ (.inl ho) hr hd hn hx k
theorem G.moveM {x : Operand} {r : Option Nat} (ho : o.op = .move x) (hr : runs n ops F o) {d : Nat} (hd : o.dst = some d) (hn : Nat.blt d n = true) (hx : ev F x = .map r) (k : G P W0 n SQ ops rest (upd F d (.map r)) D L) : G P W0 n SQ ops (o :: rest) F D L := G.mv _ (.inl ho) hr hd hn hx k
theorem G.moveW {x : Operand} {t : TypeId} {v : Value} (ho : o.op = .move x) (hr : runs n ops F o) {d : Nat} (hd : o.dst = some d) (hn : Nat.blt d n = true) (hx : ev F x = .iface t v) (k : G P W0 n SQ ops rest (upd F d (.iface t v)) D L) : G P W0 n SQ ops (o :: rest) F D L := G.mv _ (.inl ho) hr hd hn hx k
theorem G.assignW {x : Operand} {t : TypeId} {v : Value} (ho : o.op = .assign x) (hr : runs n ops F o) {d : Nat} (hd : o.dst = some d) (hn : Nat.blt d n = true) (hx : ev F x = .iface t v) (k : G P W0 n SQ ops rest (upd F d (.iface t v)) D L) : G P W0 n SQ ops (o :: rest) F D L := G.mv _ (.inr ho) hr hd hn hx k
theorem G.assignF {x : Operand} {fn : Fn} {vs us : Array Value} (ho : o.op = .assign x) (hr : runs n ops F o) {d : Nat} (hd : o.dst = some d) (hn : Nat.blt d n = true) (hx : ev F x = .func fn vs us) (k : G P W0 n SQ ops rest (upd F d (.func fn vs us)) D L) : G P W0 n SQ ops (o :: rest) F D L := G.mv _ (.inr ho) hr hd hn hx k
theorem G.assignM {x : Operand} {r : Option Nat} (ho : o.op = .assign x) (hr : runs n ops F o) {d : Nat} (hd : o.dst = some d) (hn : Nat.blt d n = true) (hx : ev F x = .map r) (k : G P W0 n SQ ops rest (upd F d (.map r)) D L) : G P W0 n SQ ops (o :: rest) F D L := G.mv _ (.inr ho) hr hd hn hx k
theorem G.moveG {x : Operand} {cs : Array Value} (ho : o.op = .move x) (hr : runs n ops F o) {d : Nat} (hd : o.dst = some d) (hn : Nat.blt d n = true) (hx : ev F x = .agg cs) (k : G P W0 n SQ ops rest (upd F d (.agg cs)) D L) : G P W0 n SQ ops (o :: rest) F D L := G.mv _ (.inl ho) hr hd hn hx k
theorem G.assignG {x : Operand} {cs : Array Value} (ho : o.op = .assign x) (hr : runs n ops F o) {d : Nat} (hd : o.dst = some d) (hn : Nat.blt d n = true) (hx : ev F x = .agg cs) (k : G P W0 n SQ ops rest (upd F d (.agg cs)) D L) : G P W0 n SQ ops (o :: rest) F D L := G.mv _ (.inr ho) hr hd hn hx k
theorem G.pickT {c x y : Operand} {b' : Bool} (ho : o.op = .pick c x y) (hr : runs n ops F o) {d : Nat} (hd : o.dst = some d) (hn : Nat.blt d n = true) (hc : ev F c = .bool true) (hx : ev F x = .bool b')
    (k : G P W0 n SQ ops rest (upd F d (.bool b')) D L) : G P W0 n SQ ops (o :: rest) F D L :=
  G.val _ hr hd hn (fun w _ => by simp [execOp, ho, hc, asBool, hx]) k
theorem G.pickF {c x y : Operand} {b' : Bool} (ho : o.op = .pick c x y) (hr : runs n ops F o) {d : Nat} (hd : o.dst = some d) (hn : Nat.blt d n = true) (hc : ev F c = .bool false) (hx : ev F y = .bool b')
    (k : G P W0 n SQ ops rest (upd F d (.bool b')) D L) : G P W0 n SQ ops (o :: rest) F D L :=
  G.val _ hr hd hn (fun w _ => by simp [execOp, ho, hc, asBool, hx]) k
theorem binI_run {op : BinOp} {kd : IntKind} {a b : Int} {v : Value} (h : binI op kd a b = some v) (t : TypeId) (w : World) : (binOp op t (.int kd a) (.int kd b)).run P w = .ok v w := by
  unfold binI at h
  split at h <;> simp only [Option.some.injEq, reduceCtorEq] at h <;> subst h <;> simp [binOp, Op.intArith, Op.intBits, Op.intCmp]
  all_goals first | rfl | (congr 1)
theorem eqGuard_int {op : BinOp} {kd : IntKind} {a b : Int} (t : TypeId) (x y : Operand) (w : World) : (eqGuard op t x y (.int kd a) (.int kd b)).run P w = .ok () w := by
  unfold eqGuard
  split <;> simp
/-- two whole numbers of one kind -/
theorem G.bin {op : BinOp} {t yt : TypeId} {x y : Operand} {kd : IntKind} {a b : Int} {v : Value} (ho : o.op = .binOp op t x y yt) (hr : runs n ops F o) {d : Nat} (hd : o.dst = some d) (hn : Nat.blt d n = true)
    (hx : ev F x = .int kd a) (hy : ev F y = .int kd b) (hv : binI op kd a b = some v) (k : G P W0 n SQ ops rest (upd F d v) D L) : G P W0 n SQ ops (o :: rest) F D L :=
  G.val v hr hd hn (fun w _ => by simp [execOp, ho, hx, hy, eqGuard_int, binI_run hv]) k
/-- the same, its value told otherwise -/
theorem G.binE {op : BinOp} {t yt : TypeId} {x y : Operand} {kd : IntKind} {a b : Int} {v : Value} (v' : Value) (ho : o.op = .binOp op t x y yt) (hr : runs n ops F o) {d : Nat} (hd : o.dst = some d) (hn : Nat.blt d n = true)
    (hx : ev F x = .int kd a) (hy : ev F y = .int kd b) (hv : binI op kd a b = some v) (e : v = v') (k : G P W0 n SQ ops rest (upd F d v') D L) : G P W0 n SQ ops (o :: rest) F D L :=
  G.bin ho hr hd hn hx hy (e ▸ hv) k
theorem wrap_in (kd : IntKind) {z : Int} (h : kd.min ≤ z ∧ z ≤ kd.max) : kd.wrap z = z := by
  cases kd <;> simp [IntKind.wrap, IntKind.min, IntKind.max, IntKind.bits, IntKind.signed] at * <;> omega
theorem wrap_i64 {z : Int} (h : -9223372036854775808 ≤ z ∧ z ≤ 9223372036854775807) : IntKind.i64.wrap z = z := wrap_in .i64 (by simpa [IntKind.min, IntKind.max, IntKind.bits, IntKind.signed] using h)
/-- sums, differences, products of ints that fit -/
theorem G.add {t yt : TypeId} {x y : Operand} {a b : Int} (ho : o.op = .binOp .add t x y yt) (hr : runs n ops F o) {d : Nat} (hd : o.dst = some d) (hn : Nat.blt d n = true) (hx : ev F x = .int .i64 a) (hy : ev F y = .int .i64 b)
    (h : -9223372036854775808 ≤ a + b ∧ a + b ≤ 9223372036854775807) (k : G P W0 n SQ ops rest (upd F d (.int .i64 (a + b))) D L) : G P W0 n SQ ops (o :: rest) F D L :=
  G.binE _ ho hr hd hn hx hy rfl (by rw [wrap_i64 h]) k
theorem G.sub {t yt : TypeId} {x y : Operand} {a b : Int} (ho : o.op = .binOp .sub t x y yt) (hr : runs n ops F o) {d : Nat} (hd : o.dst = some d) (hn : Nat.blt d n = true) (hx : ev F x = .int .i64 a) (hy : ev F y = .int .i64 b)
    (h : -9223372036854775808 ≤ a - b ∧ a - b ≤ 9223372036854775807) (k : G P W0 n SQ ops rest (upd F d (.int .i64 (a - b))) D L) : G P W0 n SQ ops (o :: rest) F D L :=
  G.binE _ ho hr hd hn hx hy rfl (by rw [wrap_i64 h]) k
theorem G.mul {t yt : TypeId} {x y : Operand} {a b : Int} (ho : o.op = .binOp .mul t x y yt) (hr : runs n ops F o) {d : Nat} (hd : o.dst = some d) (hn : Nat.blt d n = true) (hx : ev F x = .int .i64 a) (hy : ev F y = .int .i64 b)
    (h : -9223372036854775808 ≤ a * b ∧ a * b ≤ 9223372036854775807) (k : G P W0 n SQ ops rest (upd F d (.int .i64 (a * b))) D L) : G P W0 n SQ ops (o :: rest) F D L :=
  G.binE _ ho hr hd hn hx hy rfl (by rw [wrap_i64 h]) k
/-- / and % by a number that is not nought -/
theorem G.quo {t yt : TypeId} {x y : Operand} {kd : IntKind} {a b : Int} (ho : o.op = .binOp .quo t x y yt) (hr : runs n ops F o) {d : Nat} (hd : o.dst = some d) (hn : Nat.blt d n = true) (hx : ev F x = .int kd a) (hy : ev F y = .int kd b) (h0 : b ≠ 0)
    (k : G P W0 n SQ ops rest (upd F d (.int kd (kd.wrap (a.tdiv b)))) D L) : G P W0 n SQ ops (o :: rest) F D L :=
  G.val _ hr hd hn (fun w _ => by simp [execOp, ho, hx, hy, eqGuard_int, binOp, Op.intDiv, h0]) k
theorem G.rem {t yt : TypeId} {x y : Operand} {kd : IntKind} {a b : Int} (ho : o.op = .binOp .rem t x y yt) (hr : runs n ops F o) {d : Nat} (hd : o.dst = some d) (hn : Nat.blt d n = true) (hx : ev F x = .int kd a) (hy : ev F y = .int kd b) (h0 : b ≠ 0)
    (k : G P W0 n SQ ops rest (upd F d (.int kd (a.tmod b))) D L) : G P W0 n SQ ops (o :: rest) F D L :=
  G.val _ hr hd hn (fun w _ => by simp [execOp, ho, hx, hy, eqGuard_int, binOp, Op.intDiv, h0]) k
theorem eqGuard_ne {op : BinOp} (h1 : op ≠ .eql) (h2 : op ≠ .neq) (t : TypeId) (x y : Operand) (a b : Value) (w : World) : (eqGuard op t x y a b).run P w = .ok () w := by
  unfold eqGuard
  cases op <;> simp_all
theorem G.shl {t yt : TypeId} {x y : Operand} {kd ky : IntKind} {a b : Int} (ho : o.op = .binOp .shl t x y yt) (hr : runs n ops F o) {d : Nat} (hd : o.dst = some d) (hn : Nat.blt d n = true) (hx : ev F x = .int kd a) (hy : ev F y = .int ky b) (h0 : 0 ≤ b)
    (k : G P W0 n SQ ops rest (upd F d (.int kd (kd.wrap (a * 2 ^ (min b.toNat kd.bits))))) D L) : G P W0 n SQ ops (o :: rest) F D L :=
  G.val _ hr hd hn (fun w _ => by
    have hn : ¬ b < 0 := by omega
    simp [execOp, ho, hx, hy, eqGuard_ne, binOp, Op.shift, hn]) k
theorem G.shr {t yt : TypeId} {x y : Operand} {kd ky : IntKind} {a b : Int} (ho : o.op = .binOp .shr t x y yt) (hr : runs n ops F o) {d : Nat} (hd : o.dst = some d) (hn : Nat.blt d n = true) (hx : ev F x = .int kd a) (hy : ev F y = .int ky b) (h0 : 0 ≤ b)
    (k : G P W0 n SQ ops rest (upd F d (.int kd (a.fdiv (2 ^ (min b.toNat kd.bits))))) D L) : G P W0 n SQ ops (o :: rest) F D L :=
  G.val _ hr hd hn (fun w _ => by
    have hn : ¬ b < 0 := by omega
    simp [execOp, ho, hx, hy, eqGuard_ne, binOp, Op.shift, hn]) k
theorem G.not {t : TypeId} {x : Operand} {b : Bool} (ho : o.op = .unOp .not t x) (hr : runs n ops F o) {d : Nat} (hd : o.dst = some d) (hn : Nat.blt d n = true) (hx : ev F x = .bool b) (k : G P W0 n SQ ops rest (upd F d (.bool !b)) D L) : G P W0 n SQ ops (o :: rest) F D L :=
  G.val _ hr hd hn (fun w _ => by simp [execOp, ho, hx, Op.unary]) k
theorem G.notD {t : TypeId} {x : Operand} {p : Prop} [Decidable p] (ho : o.op = .unOp .not t x) (hr : runs n ops F o) {d : Nat} (hd : o.dst = some d) (hn : Nat.blt d n = true) (hx : ev F x = .bool (decide p)) (k : G P W0 n SQ ops rest (upd F d (.bool (decide ¬p))) D L) : G P W0 n SQ ops (o :: rest) F D L :=
  G.val _ hr hd hn (fun w _ => by simp [execOp, ho, hx, Op.unary]) k
theorem G.neg {t : TypeId} {x : Operand} {kd : IntKind} {a : Int} (ho : o.op = .unOp .neg t x) (hr : runs n ops F o) {d : Nat} (hd : o.dst = some d) (hn : Nat.blt d n = true) (hx : ev F x = .int kd a) (k : G P W0 n SQ ops rest (upd F d (.int kd (kd.wrap (0 - a)))) D L) : G P W0 n SQ ops (o :: rest) F D L :=
  G.val _ hr hd hn (fun w _ => by simp [execOp, ho, hx, Op.unary, Op.intArith]) k
theorem G.compl {t : TypeId} {x : Operand} {kd : IntKind} {a : Int} (ho : o.op = .unOp .xor t x) (hr : runs n ops F o) {d : Nat} (hd : o.dst = some d) (hn : Nat.blt d n = true) (hx : ev F x = .int kd a)
    (k : G P W0 n SQ ops rest (upd F d (.int kd (kd.wrap (BitVec.ofInt kd.bits (if kd.signed then -1 else kd.max) ^^^ BitVec.ofInt kd.bits a).toNat))) D L) : G P W0 n SQ ops (o :: rest) F D L :=
  G.val _ hr hd hn (fun w _ => by simp [execOp, ho, hx, Op.unary, Op.intBits]) k
theorem G.convInt {s t : TypeId} {x : Operand} {ks kd kx : IntKind} {a : Int} (ho : o.op = .convert s t x) (hr : runs n ops F o) {d : Nat} (hd : o.dst = some d) (hn : Nat.blt d n = true) (hus : P.underlying s = some (.int ks)) (hud : P.underlying t = some (.int kd)) (hx : ev F x = .int kx a)
    (k : G P W0 n SQ ops rest (upd F d (.int kd (kd.wrap a))) D L) : G P W0 n SQ ops (o :: rest) F D L :=
  G.val _ hr hd hn (fun w _ => by simp [execOp, ho, hx, convert, run_underlying hus, run_underlying hud, Conv.intToInt]) k
theorem G.extract {x : Operand} {i : Nat} {vs : Array Value} {v : Value} (ho : o.op = .extract x i) (hr : runs n ops F o) {d : Nat} (hd : o.dst = some d) (hn : Nat.blt d n = true) (hx : ev F x = .tuple vs) (hv : vs[i]? = some v) (k : G P W0 n SQ ops rest (upd F d v) D L) : G P W0 n SQ ops (o :: rest) F D L :=
  G.val _ hr hd hn (fun w _ => by simp [execOp, ho, hx, Instr.extract, hv]) k
theorem G.makeFunc {fn : Fn} {first captured : Array Operand} (ho : o.op = .makeFunc fn first captured) (hr : runs n ops F o) {d : Nat} (hd : o.dst = some d) (hn : Nat.blt d n = true) (k : G P W0 n SQ ops rest (upd F d (.func fn (first.map (ev F)) (captured.map (ev F)))) D L) : G P W0 n SQ ops (o :: rest) F D L :=
  G.val _ hr hd hn (fun w _ => by simp [execOp, ho, Instr.makeFunc]) k
def notIface : TypeDesc → Bool
  | .interface _ => false
  | _ => true
theorem G.makeInterface {t : TypeId} {x : Operand} {td : TypeDesc} (ho : o.op = .makeInterface t x) (hr : runs n ops F o) {d : Nat} (hd : o.dst = some d) (hn : Nat.blt d n = true) (hu : P.underlying t = some td) (hni : notIface td = true) (k : G P W0 n SQ ops rest (upd F d (.iface t (ev F x))) D L) : G P W0 n SQ ops (o :: rest) F D L :=
  G.val _ hr hd hn (fun w _ => by
    simp only [execOp, ho, Instr.makeInterface, Sem.run_bind, run_underlying hu, Result.andThen_ok]
    cases td <;> simp_all [notIface]) k
theorem G.nilCheckP {x : Operand} {a : Addr} (ho : o.op = .nilCheck x) (hr : runs n ops F o) {d : Nat} (hd : o.dst = some d) (hn : Nat.blt d n = true) (hx : ev F x = .pointer (some a)) (k : G P W0 n SQ ops rest (upd F d (.pointer (some a))) D L) : G P W0 n SQ ops (o :: rest) F D L :=
  G.val _ hr hd hn (fun w _ => by simp [execOp, ho, hx]) k
theorem G.nilCheckF {x : Operand} {f : FuncId} {first captured : Array Value} (ho : o.op = .nilCheck x) (hr : runs n ops F o) {d : Nat} (hd : o.dst = some d) (hn : Nat.blt d n = true) (hx : ev F x = .func (.func f) first captured) (k : G P W0 n SQ ops rest (upd F d (.func (.func f) first captured)) D L) : G P W0 n SQ ops (o :: rest) F D L :=
  G.val _ hr hd hn (fun w _ => by simp [execOp, ho, hx]) k

/-! ### Lengths, places -/
theorem G.lenSlice {x : Operand} {t e : TypeId} {a : Option Addr} {l c : Nat} (ho : o.op = .call { callee := .builtin .len, args := #[x], argTypes := #[t] }) (hr : runs n ops F o) {d : Nat} (hd : o.dst = some d) (hn : Nat.blt d n = true)
    (hu : P.underlying t = some (.slice e)) (hx : ev F x = .slice a l c) (k : G P W0 n SQ ops rest (upd F d (.int .i64 l)) D L) : G P W0 n SQ ops (o :: rest) F D L :=
  G.val _ hr hd hn (fun w _ => by simp [execOp, ho, hx, resolve, invoke, builtin, Builtin.len_, run_underlying hu, goInt]) k
theorem G.lenStr {x : Operand} {t : TypeId} {s : ByteArray} (ho : o.op = .call { callee := .builtin .len, args := #[x], argTypes := #[t] }) (hr : runs n ops F o) {d : Nat} (hd : o.dst = some d) (hn : Nat.blt d n = true)
    (hu : P.underlying t = some .string) (hx : ev F x = .string s) (k : G P W0 n SQ ops rest (upd F d (.int .i64 s.size)) D L) : G P W0 n SQ ops (o :: rest) F D L :=
  G.val _ hr hd hn (fun w _ => by simp [execOp, ho, hx, resolve, invoke, builtin, Builtin.len_, run_underlying hu, goInt]) k
theorem G.max2 {x y : Operand} {t1 t2 : TypeId} {kd : IntKind} {a b : Int} (ho : o.op = .call { callee := .builtin .max, args := #[x, y], argTypes := #[t1, t2] }) (hr : runs n ops F o) {d : Nat} (hd : o.dst = some d) (hn : Nat.blt d n = true)
    (hx : ev F x = .int kd a) (hy : ev F y = .int kd b) (k : G P W0 n SQ ops rest (upd F d (.int kd (if b > a then b else a))) D L) : G P W0 n SQ ops (o :: rest) F D L :=
  G.val _ hr hd hn (fun w _ => by simp [execOp, ho, hx, hy, resolve, invoke, builtin, Builtin.max_, Builtin.max2]) k
theorem G.min2 {x y : Operand} {t1 t2 : TypeId} {kd : IntKind} {a b : Int} (ho : o.op = .call { callee := .builtin .min, args := #[x, y], argTypes := #[t1, t2] }) (hr : runs n ops F o) {d : Nat} (hd : o.dst = some d) (hn : Nat.blt d n = true)
    (hx : ev F x = .int kd a) (hy : ev F y = .int kd b) (k : G P W0 n SQ ops rest (upd F d (.int kd (if b < a then b else a))) D L) : G P W0 n SQ ops (o :: rest) F D L :=
  G.val _ hr hd hn (fun w _ => by simp [execOp, ho, hx, hy, resolve, invoke, builtin, Builtin.min_, Builtin.min2]) k
theorem add_mul_addr (b o m : Nat) : (⟨b, o, none⟩ : Addr).add m = ⟨b, o + m, none⟩ := by
  unfold Addr.add
  split
  · subst_vars; rfl
  · rfl
theorem G.indexAddr {t e : TypeId} {x y : Operand} {kd : IntKind} {b off l c : Nat} {i : Int} {sz by_ : Nat} {z : Value} (ho : o.op = .indexAddr t x y) (hr : runs n ops F o) {d : Nat} (hd : o.dst = some d) (hn : Nat.blt d n = true)
    (hu : P.underlying t = some (.slice e)) (hi : Inf P e sz by_ z) (hx : ev F x = .slice (some ⟨b, off, none⟩) l c) (hy : ev F y = .int kd i) (h : 0 ≤ i ∧ i < l)
    (k : G P W0 n SQ ops rest (upd F d (.pointer (some ⟨b, off + i.toNat * sz, none⟩))) D L) : G P W0 n SQ ops (o :: rest) F D L :=
  G.val _ hr hd hn (fun w _ => by
    have hs := hi.run_size (w := w)
    have hs' : ∀ w, (sizeOf e).run P w = .ok sz w := fun w => hi.run_size
    simp [execOp, ho, hx, hy, Instr.indexAt, asIntOf, run_underlying hu, h.1, h.2, hs', add_mul_addr]) k
theorem G.indexAddrArr {t e : TypeId} {x y : Operand} {kd : IntKind} {b off l : Nat} {i : Int} {sz by_ : Nat} {z : Value} (ho : o.op = .indexAddr t x y) (hr : runs n ops F o) {d : Nat} (hd : o.dst = some d) (hn : Nat.blt d n = true)
    (hu : P.underlying t = some (.array l e)) (hi : Inf P e sz by_ z) (hx : ev F x = .pointer (some ⟨b, off, none⟩)) (hy : ev F y = .int kd i) (h : 0 ≤ i ∧ i < l)
    (k : G P W0 n SQ ops rest (upd F d (.pointer (some ⟨b, off + i.toNat * sz, none⟩))) D L) : G P W0 n SQ ops (o :: rest) F D L :=
  G.val _ hr hd hn (fun w _ => by
    have hs' : ∀ w, (sizeOf e).run P w = .ok sz w := fun w => hi.run_size
    simp [execOp, ho, hx, hy, Instr.indexAt, Instr.sureAddr, asIntOf, run_underlying hu, h.1, h.2, hs', add_mul_addr]) k
theorem G.fieldAddr {t : TypeId} {x : Operand} {fs : Array Field} {f : Field} {i b off sz by_ : Nat} {z : Value} (ho : o.op = .fieldAddr t x i) (hr : runs n ops F o) {d : Nat} (hd : o.dst = some d) (hn : Nat.blt d n = true)
    (hu : P.underlying t = some (.struct fs)) (hf : fs[i]? = some f) (hi : Inf P f.type sz by_ z) (hz : Nat.beq sz 0 = false) (hx : ev F x = .pointer (some ⟨b, off, none⟩))
    (k : G P W0 n SQ ops rest (upd F d (.pointer (some ⟨b, off + f.offset, none⟩))) D L) : G P W0 n SQ ops (o :: rest) F D L :=
  G.val _ hr hd hn (fun w _ => by
    have hs' : ∀ w, (sizeOf f.type).run P w = .ok sz w := fun w => hi.run_size
    have hz' : sz ≠ 0 := fun e => by subst e; cases hz
    simp [execOp, ho, hx, Instr.fieldAt, Instr.sureAddr, fieldPlace, run_underlying hu, hf, hs', hz', add_mul_addr]) k

/-! ### Cells -/
def scalar : TypeDesc → Bool
  | .struct _ | .array _ _ => false
  | _ => true
theorem run_isAgg_no {t : TypeId} {d : TypeDesc} (hu : P.underlying t = some d) (h : scalar d = true) (w : World) : (isAgg t).run P w = .ok false w := by
  simp only [isAgg, Sem.run_bind, run_underlying hu, Result.andThen_ok]
  cases d <;> simp_all [scalar]
theorem run_isAgg_yes {t : TypeId} {d : TypeDesc} (hu : P.underlying t = some d) (h : scalar d = false) (w : World) : (isAgg t).run P w = .ok true w := by
  simp only [isAgg, Sem.run_bind, run_underlying hu, Result.andThen_ok]
  cases d <;> simp_all [scalar]
theorem G.load {t : TypeId} {x : Operand} {td : TypeDesc} {a : Addr} {v : Value} (ho : o.op = .load t x) (hr : runs n ops F o) {d : Nat} (hd : o.dst = some d) (hn : Nat.blt d n = true) (hu : P.underlying t = some td) (hs : scalar td = true)
    (hx : ev F x = .pointer (some a)) (hc : ∀ w, Mem W0 w L → w.cell? a = some v) (k : G P W0 n SQ ops rest (upd F d v) D L) : G P W0 n SQ ops (o :: rest) F D L :=
  G.val _ hr hd hn (fun w hm => by
    have ha : ∀ w, (isAgg t).run P w = .ok false w := run_isAgg_no hu hs
    simp [execOp, ho, hx, Instr.loadAt, Instr.sureAddr, loadVar, ha, run_load, hc w hm]) k
/-- out of a block of the list -/
theorem G.loadAt {t : TypeId} {x : Operand} {td : TypeDesc} {b i : Nat} {v : Value} {cs : List Value} {e : TypeId} {kk : Nat} {u : Nat → SObj → List Seg} (ha : At L b (.row cs e kk) u) (ho : o.op = .load t x) (hr : runs n ops F o) {d : Nat} (hd : o.dst = some d) (hn : Nat.blt d n = true) (hu : P.underlying t = some td) (hs : scalar td = true)
    (hx : ev F x = .pointer (some ⟨b, i, none⟩)) (hc : cs[i]? = some v) (k : G P W0 n SQ ops rest (upd F d v) D L) : G P W0 n SQ ops (o :: rest) F D L :=
  G.load ho hr hd hn hu hs hx (fun _ hm => (hm.get ha).2.cell hc) k
def cellsOk (v : Value) : Bool := match v with | .agg _ | .tuple _ => false | _ => true
theorem cells_of_ok {v : Value} (h : cellsOk v = true) : v.cells = #[v] := by cases v <;> simp_all [cellsOk, Value.cells]
theorem one_of_ok {v : Value} (h : cellsOk v = true) : v.oneCell' = true := by cases v <;> simp_all [cellsOk, Value.oneCell']
theorem run_store_cell {b i : Nat} {v old : Value} {w : World} (h1 : cellsOk v = true) (hc : w.cell? ⟨b, i, none⟩ = some old) (hf : w.frozen? ⟨b, i, none⟩ = false) : (store ⟨b, i, none⟩ v).run P w = .ok () (w.setCell ⟨b, i, none⟩ v) := by
  cases v <;> simp_all [cellsOk, store, Sem.run]
theorem G.store {t : TypeId} {x y : Operand} {b i : Nat} {v : Value} {cs : List Value} {e : TypeId} {kk by_ : Nat} {z : Value} {u : Nat → SObj → List Seg} (ha : At L b (.row cs e kk) u) (ho : o.op = .store t x y) (hr : runs n ops F o) (hd : o.dst = none)
    (hi : Inf P t 1 by_ z) (hx : ev F x = .pointer (some ⟨b, i, none⟩)) (hy : ev F y = v) (h1 : cellsOk v = true) (hlt : i < cs.length) (cs' : List Value) (hset : cs.set i v = cs')
    (k : G P W0 n SQ ops rest F D (u b (.row cs' e kk))) : G P W0 n SQ ops (o :: rest) F D L :=
  G.effSkip hr hd fun w hm => by
    subst hset
    have hb := (hm.get ha).2
    have hsz : ∀ w, (sizeOf t).run P w = .ok 1 w := fun w => hi.run_size
    obtain ⟨old, hold⟩ : ∃ old, cs[i]? = some old := ⟨cs[i], List.getElem?_eq_getElem hlt⟩
    have hk : i < kk := by
      obtain ⟨rest, fr, _, h2, _⟩ := hb
      simp only [List.length_append] at h2
      omega
    refine ⟨w.setCell ⟨b, i, none⟩ v, _, ?_, hm.set ha hlt v, k⟩
    simp [execOp, ho, hx, hy, Instr.storeAt, Instr.sureAddr, storeVar, cells_of_ok h1, hsz, storeCells, add_mul_addr, run_store_cell h1 (hb.cell hold) (hb.unfrozen hk)]
theorem Holds.newRow (w : World) (cs : List Value) (t : TypeId) : Holds (w.alloc (.cells cs.toArray t)) w.heap.size (.row cs t cs.length) :=
  ⟨[], (0, 0), by show (w.heap.push _)[w.heap.size]? = _; simp, by simp, .inl rfl⟩
/-- a new variable, at its zero value -/
theorem G.alloc {t : TypeId} {sz by_ : Nat} {z : Value} (ho : o.op = .alloc t) (hr : runs n ops F o) {d : Nat} (hd : o.dst = some d) (hn : Nat.blt d n = true) (hi : Inf P t sz by_ z)
    (k : ∀ b, G P W0 n SQ ops rest (upd F d (.pointer (some ⟨b, 0, none⟩))) D ([(b, .row z.cells.toList t z.cells.toList.length)] :: L)) : G P W0 n SQ ops (o :: rest) F D L :=
  G.eff hr hd hn fun w hm => by
    have hz : ∀ w, (zeroValue t).run P w = .ok z w := fun w => hi.run_zero
    refine ⟨_, w.alloc (.cells z.cells t), _, ?_, hm.alloc _ ?_, k w.heap.size⟩
    · simp [execOp, ho, Instr.alloc, hz, newVar, Go.newRow]
    · simpa using Holds.newRow w z.cells.toList t
/-- a new variable, at a value -/
theorem G.box {t : TypeId} {x : Operand} (ho : o.op = .box t x) (hr : runs n ops F o) {d : Nat} (hd : o.dst = some d) (hn : Nat.blt d n = true)
    (k : ∀ b, G P W0 n SQ ops rest (upd F d (.pointer (some ⟨b, 0, none⟩))) D ([(b, .row (ev F x).cells.toList t (ev F x).cells.toList.length)] :: L)) : G P W0 n SQ ops (o :: rest) F D L :=
  G.eff hr hd hn fun w hm => by
    refine ⟨_, w.alloc (.cells (ev F x).cells t), _, ?_, hm.alloc _ ?_, k w.heap.size⟩
    · simp [execOp, ho, Instr.box, newVar, Go.newRow]
    · simpa using Holds.newRow w (ev F x).cells.toList t

/-! ### Calls of the program's functions -/
def Enters (P : Program) (f : FuncId) : Prop := ∀ (args : Array Value) (w : World), (callFunc f args).run P w = .ok (.enter f args) w
theorem Enters.of {P : Program} {f : FuncId} {fn : Func} (h : P.funcs[f]? = some fn) (h1 : (fn.name == "runtime.NumGoroutine") = false) (h2 : fn.body.isNone = false) : Enters P f := by
  intro args w
  simp only [callFunc, Sem.run_bind, run_program, Result.andThen_ok, h, h1, h2]
  rfl
/-- a function by its name, a method by its receiver -/
theorem G.call {c : Call} {f : FuncId} (he : Enters P f) (ho : o.op = .call c) (hc : c.callee = .value (.func f)) (hr : runs n ops F o) {d : Nat} (hd : o.dst = some d) (hn : Nat.blt d n = true) {args : List Value}
    {R : Ending → List Seg → Prop} (hf : FnS P W0 f args.toArray L R) (hargs : c.args.toList.map (ev F) = args)
    (k : ∀ e L', R e L' → match e with
      | .returned v => G P W0 n SQ ops rest (upd F d v) D L'
      | .panicked chain => SQ (.panic chain) F D L'
      | .outgrown => False) : G P W0 n SQ ops (o :: rest) F D L :=
  G.enter hr hd hn (fun w _ => by
    have hargs' : c.args.map (ev F) = args.toArray := by rw [← hargs]; apply Array.ext'; simp
    simp [execOp, ho, resolve, hc, Deferred.ofValue, ev, invoke, hargs', he args.toArray w]) hf k
/-- a function value -/
theorem G.callV {c : Call} {x : Operand} {f : FuncId} {first captured : Array Value} (he : Enters P f) (ho : o.op = .call c) (hc : c.callee = .value x) (hx : ev F x = .func (.func f) first captured) (hr : runs n ops F o) {d : Nat} (hd : o.dst = some d) (hn : Nat.blt d n = true)
    {args : List Value} {R : Ending → List Seg → Prop} (hf : FnS P W0 f args.toArray L R) (hargs : first.toList ++ c.args.toList.map (ev F) ++ captured.toList = args)
    (k : ∀ e L', R e L' → match e with
      | .returned v => G P W0 n SQ ops rest (upd F d v) D L'
      | .panicked chain => SQ (.panic chain) F D L'
      | .outgrown => False) : G P W0 n SQ ops (o :: rest) F D L :=
  G.enter hr hd hn (fun w _ => by
    simp only [execOp, ho, resolve, hc, Deferred.ofValue, hx, invoke, Sem.run_bind, Sem.run_pure, Result.andThen_ok]
    have hargs' : first ++ c.args.map (ev F) ++ captured = args.toArray := by rw [← hargs]; apply Array.ext'; simp
    rw [hargs']; exact he args.toArray w) hf k
end rules
end Go.SL
