/-
  What the operations that leave the world alone come to, as plain facts on their runs (out of the rules G.., by a program of this workplace: mky.py). No program in sight.
-/
import Derived.Test.YtjfjmhmfhkdcbabSL5
namespace Go.SL
open Go Go.RowKit
section rules
variable {P : Program} {W0 : World} {F : Nat → Value} {L : List Seg} {o : Oper}
theorem Y.mv {x : Operand} (v : Value) (ho : o.op = .move x ∨ o.op = .assign x) (hx : ev F x = v) : ∀ w, (execOp (ev F) o).run P w = .ok (.value v) w :=
  fun w => by rcases ho with ho | ho <;> simp [execOp, ho, hx]
theorem Y.pickT {c x y : Operand} {b' : Bool} (ho : o.op = .pick c x y) (hc : ev F c = .bool true) (hx : ev F x = .bool b') : ∀ w, (execOp (ev F) o).run P w = .ok (.value (.bool b')) w :=
  fun w => by simp [execOp, ho, hc, asBool, hx]
theorem Y.pickF {c x y : Operand} {b' : Bool} (ho : o.op = .pick c x y) (hc : ev F c = .bool false) (hx : ev F y = .bool b') : ∀ w, (execOp (ev F) o).run P w = .ok (.value (.bool b')) w :=
  fun w => by simp [execOp, ho, hc, asBool, hx]
theorem Y.bin {op : BinOp} {t yt : TypeId} {x y : Operand} {kd : IntKind} {a b : Int} {v : Value} (ho : o.op = .binOp op t x y yt) 
    (hx : ev F x = .int kd a) (hy : ev F y = .int kd b) (hv : binI op kd a b = some v) : ∀ w, (execOp (ev F) o).run P w = .ok (.value v) w :=
  fun w => by simp [execOp, ho, hx, hy, eqGuard_int, binI_run hv]
theorem Y.quo {t yt : TypeId} {x y : Operand} {kd : IntKind} {a b : Int} (ho : o.op = .binOp .quo t x y yt) (hx : ev F x = .int kd a) (hy : ev F y = .int kd b) (h0 : b ≠ 0) : ∀ w, (execOp (ev F) o).run P w = .ok (.value (.int kd (kd.wrap (a.tdiv b)))) w :=
  fun w => by simp [execOp, ho, hx, hy, eqGuard_int, binOp, Op.intDiv, h0]
theorem Y.rem {t yt : TypeId} {x y : Operand} {kd : IntKind} {a b : Int} (ho : o.op = .binOp .rem t x y yt) (hx : ev F x = .int kd a) (hy : ev F y = .int kd b) (h0 : b ≠ 0) : ∀ w, (execOp (ev F) o).run P w = .ok (.value (.int kd (a.tmod b))) w :=
  fun w => by simp [execOp, ho, hx, hy, eqGuard_int, binOp, Op.intDiv, h0]
theorem Y.shl {t yt : TypeId} {x y : Operand} {kd ky : IntKind} {a b : Int} (ho : o.op = .binOp .shl t x y yt) (hx : ev F x = .int kd a) (hy : ev F y = .int ky b) (h0 : 0 ≤ b) : ∀ w, (execOp (ev F) o).run P w = .ok (.value (.int kd (kd.wrap (a * 2 ^ (min b.toNat kd.bits))))) w :=
  fun w => by
    have hn : ¬ b < 0 := by omega
    simp [execOp, ho, hx, hy, eqGuard_ne, binOp, Op.shift, hn]
theorem Y.shr {t yt : TypeId} {x y : Operand} {kd ky : IntKind} {a b : Int} (ho : o.op = .binOp .shr t x y yt) (hx : ev F x = .int kd a) (hy : ev F y = .int ky b) (h0 : 0 ≤ b) : ∀ w, (execOp (ev F) o).run P w = .ok (.value (.int kd (a.fdiv (2 ^ (min b.toNat kd.bits))))) w :=
  fun w => by
    have hn : ¬ b < 0 := by omega
    simp [execOp, ho, hx, hy, eqGuard_ne, binOp, Op.shift, hn]
theorem Y.not {t : TypeId} {x : Operand} {b : Bool} (ho : o.op = .unOp .not t x) (hx : ev F x = .bool b) : ∀ w, (execOp (ev F) o).run P w = .ok (.value (.bool !b)) w :=
  fun w => by simp [execOp, ho, hx, Op.unary]
theorem Y.notD {t : TypeId} {x : Operand} {p : Prop} [Decidable p] (ho : o.op = .unOp .not t x) (hx : ev F x = .bool (decide p)) : ∀ w, (execOp (ev F) o).run P w = .ok (.value (.bool (decide ¬p))) w :=
  fun w => by simp [execOp, ho, hx, Op.unary]
theorem Y.neg {t : TypeId} {x : Operand} {kd : IntKind} {a : Int} (ho : o.op = .unOp .neg t x) (hx : ev F x = .int kd a) : ∀ w, (execOp (ev F) o).run P w = .ok (.value (.int kd (kd.wrap (0 - a)))) w :=
  fun w => by simp [execOp, ho, hx, Op.unary, Op.intArith]
theorem Y.compl {t : TypeId} {x : Operand} {kd : IntKind} {a : Int} (ho : o.op = .unOp .xor t x) (hx : ev F x = .int kd a) : ∀ w, (execOp (ev F) o).run P w = .ok (.value (.int kd (kd.wrap (BitVec.ofInt kd.bits (if kd.signed then -1 else kd.max) ^^^ BitVec.ofInt kd.bits a).toNat))) w :=
  fun w => by simp [execOp, ho, hx, Op.unary, Op.intBits]
theorem Y.convInt {s t : TypeId} {x : Operand} {ks kd kx : IntKind} {a : Int} (ho : o.op = .convert s t x) (hus : P.underlying s = some (.int ks)) (hud : P.underlying t = some (.int kd)) (hx : ev F x = .int kx a) : ∀ w, (execOp (ev F) o).run P w = .ok (.value (.int kd (kd.wrap a))) w :=
  fun w => by simp [execOp, ho, hx, convert, run_underlying hus, run_underlying hud, Conv.intToInt]
theorem Y.extract {x : Operand} {i : Nat} {vs : Array Value} {v : Value} (ho : o.op = .extract x i) (hx : ev F x = .tuple vs) (hv : vs[i]? = some v) : ∀ w, (execOp (ev F) o).run P w = .ok (.value v) w :=
  fun w => by simp [execOp, ho, hx, Instr.extract, hv]
theorem Y.makeFunc {fn : Fn} {first captured : Array Operand} (ho : o.op = .makeFunc fn first captured) : ∀ w, (execOp (ev F) o).run P w = .ok (.value (.func fn (first.map (ev F)) (captured.map (ev F)))) w :=
  fun w => by simp [execOp, ho, Instr.makeFunc]
theorem Y.makeInterface {t : TypeId} {x : Operand} {td : TypeDesc} (ho : o.op = .makeInterface t x) (hu : P.underlying t = some td) (hni : notIface td = true) : ∀ w, (execOp (ev F) o).run P w = .ok (.value (.iface t (ev F x))) w :=
  fun w => by
    simp only [execOp, ho, Instr.makeInterface, Sem.run_bind, run_underlying hu, Result.andThen_ok]
    cases td <;> simp_all [notIface]
theorem Y.nilCheckP {x : Operand} {a : Addr} (ho : o.op = .nilCheck x) (hx : ev F x = .pointer (some a)) : ∀ w, (execOp (ev F) o).run P w = .ok (.value (.pointer (some a))) w :=
  fun w => by simp [execOp, ho, hx]
theorem Y.nilCheckF {x : Operand} {f : FuncId} {first captured : Array Value} (ho : o.op = .nilCheck x) (hx : ev F x = .func (.func f) first captured) : ∀ w, (execOp (ev F) o).run P w = .ok (.value (.func (.func f) first captured)) w :=
  fun w => by simp [execOp, ho, hx]
theorem Y.lenSlice {x : Operand} {t e : TypeId} {a : Option Addr} {l c : Nat} (ho : o.op = .call { callee := .builtin .len, args := #[x], argTypes := #[t] }) 
    (hu : P.underlying t = some (.slice e)) (hx : ev F x = .slice a l c) : ∀ w, (execOp (ev F) o).run P w = .ok (.value (.int .i64 l)) w :=
  fun w => by simp [execOp, ho, hx, resolve, invoke, builtin, Builtin.len_, run_underlying hu, goInt]
theorem Y.lenStr {x : Operand} {t : TypeId} {s : ByteArray} (ho : o.op = .call { callee := .builtin .len, args := #[x], argTypes := #[t] }) 
    (hu : P.underlying t = some .string) (hx : ev F x = .string s) : ∀ w, (execOp (ev F) o).run P w = .ok (.value (.int .i64 s.size)) w :=
  fun w => by simp [execOp, ho, hx, resolve, invoke, builtin, Builtin.len_, run_underlying hu, goInt]
theorem Y.max2 {x y : Operand} {t1 t2 : TypeId} {kd : IntKind} {a b : Int} (ho : o.op = .call { callee := .builtin .max, args := #[x, y], argTypes := #[t1, t2] }) 
    (hx : ev F x = .int kd a) (hy : ev F y = .int kd b) : ∀ w, (execOp (ev F) o).run P w = .ok (.value (.int kd (if b > a then b else a))) w :=
  fun w => by simp [execOp, ho, hx, hy, resolve, invoke, builtin, Builtin.max_, Builtin.max2]
theorem Y.min2 {x y : Operand} {t1 t2 : TypeId} {kd : IntKind} {a b : Int} (ho : o.op = .call { callee := .builtin .min, args := #[x, y], argTypes := #[t1, t2] }) 
    (hx : ev F x = .int kd a) (hy : ev F y = .int kd b) : ∀ w, (execOp (ev F) o).run P w = .ok (.value (.int kd (if b < a then b else a))) w :=
  fun w => by simp [execOp, ho, hx, hy, resolve, invoke, builtin, Builtin.min_, Builtin.min2]
theorem Y.indexAddr {t e : TypeId} {x y : Operand} {kd : IntKind} {b off l c : Nat} {i : Int} {sz by_ : Nat} {z : Value} (ho : o.op = .indexAddr t x y) 
    (hu : P.underlying t = some (.slice e)) (hi : Inf P e sz by_ z) (hx : ev F x = .slice (some ⟨b, off, none⟩) l c) (hy : ev F y = .int kd i) (h : 0 ≤ i ∧ i < l) : ∀ w, (execOp (ev F) o).run P w = .ok (.value (.pointer (some ⟨b, off + i.toNat * sz, none⟩))) w :=
  fun w => by
    have hs := hi.run_size (w := w)
    have hs' : ∀ w, (sizeOf e).run P w = .ok sz w := fun w => hi.run_size
    simp [execOp, ho, hx, hy, Instr.indexAt, asIntOf, run_underlying hu, h.1, h.2, hs', add_mul_addr]
theorem Y.indexAddrArr {t e : TypeId} {x y : Operand} {kd : IntKind} {b off l : Nat} {i : Int} {sz by_ : Nat} {z : Value} (ho : o.op = .indexAddr t x y) 
    (hu : P.underlying t = some (.array l e)) (hi : Inf P e sz by_ z) (hx : ev F x = .pointer (some ⟨b, off, none⟩)) (hy : ev F y = .int kd i) (h : 0 ≤ i ∧ i < l) : ∀ w, (execOp (ev F) o).run P w = .ok (.value (.pointer (some ⟨b, off + i.toNat * sz, none⟩))) w :=
  fun w => by
    have hs' : ∀ w, (sizeOf e).run P w = .ok sz w := fun w => hi.run_size
    simp [execOp, ho, hx, hy, Instr.indexAt, Instr.sureAddr, asIntOf, run_underlying hu, h.1, h.2, hs', add_mul_addr]
theorem Y.fieldAddr {t : TypeId} {x : Operand} {fs : Array Field} {f : Field} {i b off sz by_ : Nat} {z : Value} (ho : o.op = .fieldAddr t x i) 
    (hu : P.underlying t = some (.struct fs)) (hf : fs[i]? = some f) (hi : Inf P f.type sz by_ z) (hz : Nat.beq sz 0 = false) (hx : ev F x = .pointer (some ⟨b, off, none⟩)) : ∀ w, (execOp (ev F) o).run P w = .ok (.value (.pointer (some ⟨b, off + f.offset, none⟩))) w :=
  fun w => by
    have hs' : ∀ w, (sizeOf f.type).run P w = .ok sz w := fun w => hi.run_size
    have hz' : sz ≠ 0 := fun e => by subst e; cases hz
    simp [execOp, ho, hx, Instr.fieldAt, Instr.sureAddr, fieldPlace, run_underlying hu, hf, hs', hz', add_mul_addr]
theorem Y.load {t : TypeId} {x : Operand} {td : TypeDesc} {a : Addr} {v : Value} (ho : o.op = .load t x) (hu : P.underlying t = some td) (hs : scalar td = true)
    (hx : ev F x = .pointer (some a)) (hc : ∀ w, Mem W0 w L → w.cell? a = some v) : ∀ w, Mem W0 w L → (execOp (ev F) o).run P w = .ok (.value v) w :=
  fun w hm => by
    have ha : ∀ w, (isAgg t).run P w = .ok false w := run_isAgg_no hu hs
    simp [execOp, ho, hx, Instr.loadAt, Instr.sureAddr, loadVar, ha, run_load, hc w hm]
theorem Y.sliceLH {t e : TypeId} {x lo up : Operand} {a : Option Addr} {len cap : Nat} {kl kh : IntKind} {l h : Int} {sz by_ : Nat} {z : Value} (ho : o.op = .slice t x (some lo) (some up) none) 
    (hu : P.underlying t = some (.slice e)) (hi : Inf P e sz by_ z) (hx : ev F x = .slice a len cap) (hl : ev F lo = .int kl l) (hh : ev F up = .int kh h) (hb : 0 ≤ l ∧ l ≤ h ∧ h ≤ cap) : ∀ w, (execOp (ev F) o).run P w = .ok (.value (.slice (cutA a cap l.toNat sz) (h.toNat - l.toNat) (cap - l.toNat))) w :=
  fun w => by
    have hs : ∀ w, (sizeOf e).run P w = .ok sz w := fun w => hi.run_size
    obtain ⟨h1, h2, h3⟩ := hb
    have h4 : 0 ≤ h := by omega
    have e1 : (h.toNat : Int) = h := by omega
    simp [execOp, ho, hx, hl, hh, Instr.sliceAt, Instr.slice, Instr.sliceBounds, run_underlying hu, run_sliceBound, hs, h1, h2, h3, h4, e1, cutA]
theorem Y.sliceH {t e : TypeId} {x up : Operand} {a : Option Addr} {len cap : Nat} {kh : IntKind} {h : Int} {sz by_ : Nat} {z : Value} (ho : o.op = .slice t x none (some up) none) 
    (hu : P.underlying t = some (.slice e)) (hi : Inf P e sz by_ z) (hx : ev F x = .slice a len cap) (hh : ev F up = .int kh h) (hb : 0 ≤ h ∧ h ≤ cap) : ∀ w, (execOp (ev F) o).run P w = .ok (.value (.slice a h.toNat cap)) w :=
  fun w => by
    have hs : ∀ w, (sizeOf e).run P w = .ok sz w := fun w => hi.run_size
    obtain ⟨h1, h3⟩ := hb
    have e0 : (a.map fun x => x.add 0) = a := by cases a <;> simp [Addr.add]
    simp [execOp, ho, hx, hh, Instr.sliceAt, Instr.slice, Instr.sliceBounds, run_underlying hu, run_sliceBound, hs, h1, h3, e0]
theorem Y.sliceL {t e : TypeId} {x lo : Operand} {a : Option Addr} {len cap : Nat} {kl : IntKind} {l : Int} {sz by_ : Nat} {z : Value} (ho : o.op = .slice t x (some lo) none none) 
    (hu : P.underlying t = some (.slice e)) (hi : Inf P e sz by_ z) (hx : ev F x = .slice a len cap) (hl : ev F lo = .int kl l) (hb : 0 ≤ l ∧ l ≤ len) : ∀ w, (execOp (ev F) o).run P w = .ok (.value (.slice (cutA a cap l.toNat sz) (len - l.toNat) (cap - l.toNat))) w :=
  fun w => by
    have hs : ∀ w, (sizeOf e).run P w = .ok sz w := fun w => hi.run_size
    obtain ⟨h1, h2⟩ := hb
    simp [execOp, ho, hx, hl, Instr.sliceAt, Instr.slice, Instr.sliceBounds, run_underlying hu, run_sliceBound, hs, h1, h2, cutA]
theorem Y.sliceArr {t e : TypeId} {x : Operand} {b off m : Nat} {sz by_ : Nat} {z : Value} (ho : o.op = .slice t x none none none) 
    (hu : P.underlying t = some (.array m e)) (hi : Inf P e sz by_ z) (hx : ev F x = .pointer (some ⟨b, off, none⟩)) (_h : True) : ∀ w, (execOp (ev F) o).run P w = .ok (.value (.slice (some ⟨b, off, none⟩) m m)) w :=
  fun w => by
    have hs : ∀ w, (sizeOf e).run P w = .ok sz w := fun w => hi.run_size
    simp [execOp, ho, hx, Instr.sliceAt, Instr.sureAddr, Instr.sliceBounds, run_underlying hu, hs, Addr.add]
theorem Y.sliceArrL {t e : TypeId} {x lo : Operand} {b off m : Nat} {kl : IntKind} {l : Int} {sz by_ : Nat} {z : Value} (ho : o.op = .slice t x (some lo) none none) 
    (hu : P.underlying t = some (.array m e)) (hi : Inf P e sz by_ z) (hx : ev F x = .pointer (some ⟨b, off, none⟩)) (hl : ev F lo = .int kl l) (hb : 0 ≤ l ∧ l < m) : ∀ w, (execOp (ev F) o).run P w = .ok (.value (.slice (some ⟨b, off + l.toNat * sz, none⟩) (m - l.toNat) (m - l.toNat))) w :=
  fun w => by
    have hs : ∀ w, (sizeOf e).run P w = .ok sz w := fun w => hi.run_size
    obtain ⟨h1, h2⟩ := hb
    have h3 : l ≤ (m : Int) := by omega
    have h4 : ¬ m = l.toNat := by omega
    simp [execOp, ho, hx, hl, Instr.sliceAt, Instr.sureAddr, Instr.sliceBounds, run_underlying hu, run_sliceBound, hs, h1, h3, h4, add_mul_addr]
theorem Y.sliceArrLH {t e : TypeId} {x lo up : Operand} {b off m : Nat} {kl kh : IntKind} {l h : Int} {sz by_ : Nat} {z : Value} (ho : o.op = .slice t x (some lo) (some up) none) 
    (hu : P.underlying t = some (.array m e)) (hi : Inf P e sz by_ z) (hx : ev F x = .pointer (some ⟨b, off, none⟩)) (hl : ev F lo = .int kl l) (hh : ev F up = .int kh h) (hb : 0 ≤ l ∧ l ≤ h ∧ h ≤ m ∧ l < m) : ∀ w, (execOp (ev F) o).run P w = .ok (.value (.slice (some ⟨b, off + l.toNat * sz, none⟩) (h.toNat - l.toNat) (m - l.toNat))) w :=
  fun w => by
    have hs : ∀ w, (sizeOf e).run P w = .ok sz w := fun w => hi.run_size
    obtain ⟨h1, h2, h3, h4⟩ := hb
    have h5 : 0 ≤ h := by omega
    have e1 : (h.toNat : Int) = h := by omega
    have h6 : ¬ m = l.toNat := by omega
    simp [execOp, ho, hx, hl, hh, Instr.sliceAt, Instr.sureAddr, Instr.sliceBounds, run_underlying hu, run_sliceBound, hs, h1, h2, h3, h5, e1, h6, add_mul_addr]
theorem Y.sliceArrH {t e : TypeId} {x up : Operand} {b off m : Nat} {kh : IntKind} {h : Int} {sz by_ : Nat} {z : Value} (ho : o.op = .slice t x none (some up) none) 
    (hu : P.underlying t = some (.array m e)) (hi : Inf P e sz by_ z) (hx : ev F x = .pointer (some ⟨b, off, none⟩)) (hh : ev F up = .int kh h) (hb : 0 ≤ h ∧ h ≤ m) : ∀ w, (execOp (ev F) o).run P w = .ok (.value (.slice (some ⟨b, off, none⟩) h.toNat m)) w :=
  fun w => by
    have hs : ∀ w, (sizeOf e).run P w = .ok sz w := fun w => hi.run_size
    obtain ⟨h1, h3⟩ := hb
    simp [execOp, ho, hx, hh, Instr.sliceAt, Instr.sureAddr, Instr.sliceBounds, run_underlying hu, run_sliceBound, hs, h1, h3, Addr.add]
theorem Y.strEq {t yt : TypeId} {x y : Operand} {a b : ByteArray} (ho : o.op = .binOp .eql t x y yt) (hx : ev F x = .string a) (hy : ev F y = .string b) : ∀ w, (execOp (ev F) o).run P w = .ok (.value (.bool (decide (a = b)))) w :=
  fun w => by simp [execOp, ho, hx, hy, eqGuard_plain, binOp, Op.stringOp, str_eq]
theorem Y.strNe {t yt : TypeId} {x y : Operand} {a b : ByteArray} (ho : o.op = .binOp .neq t x y yt) (hx : ev F x = .string a) (hy : ev F y = .string b) : ∀ w, (execOp (ev F) o).run P w = .ok (.value (.bool (decide (¬ a = b)))) w :=
  fun w => by simp [execOp, ho, hx, hy, eqGuard_plain, binOp, Op.stringOp, str_eq]
theorem Y.strAdd {t yt : TypeId} {x y : Operand} {a b : ByteArray} (ho : o.op = .binOp .add t x y yt) (hb : a.size + b.size ≤ 9223372036854775807) (hx : ev F x = .string a) (hy : ev F y = .string b) : ∀ w, (execOp (ev F) o).run P w = .ok (.value (.string (a ++ b))) w :=
  fun w => by
    have h : ¬ (((a.size + b.size : Nat) : Int) > IntKind.i64.max) := by
      have : IntKind.i64.max = 9223372036854775807 := by decide
      omega
    simp only [execOp, ho, hx, hy, eqGuard_plain, binOp, Op.stringOp, Sem.run_bind, h, if_false]
    rw [eqGuard_ne (by decide) (by decide)]
    rfl
theorem Y.boolEq {t yt : TypeId} {x y : Operand} {a b : Bool} (ho : o.op = .binOp .eql t x y yt) (hu : P.underlying t = some .bool) (hx : ev F x = .bool a) (hy : ev F y = .bool b) : ∀ w, (execOp (ev F) o).run P w = .ok (.value (.bool (a == b))) w :=
  fun w => by simp [execOp, ho, hx, hy, eqGuard_plain, binOp, run_equal_bool, hu]
theorem Y.boolNe {t yt : TypeId} {x y : Operand} {a b : Bool} (ho : o.op = .binOp .neq t x y yt) (hu : P.underlying t = some .bool) (hx : ev F x = .bool a) (hy : ev F y = .bool b) : ∀ w, (execOp (ev F) o).run P w = .ok (.value (.bool (!(a == b)))) w :=
  fun w => by simp [execOp, ho, hx, hy, eqGuard_plain, binOp, run_equal_bool, hu]
theorem Y.ptrEq {t yt e : TypeId} {x y : Operand} {p : Option Addr} (ho : o.op = .binOp .eql t x y yt) (hu : P.underlying t = some (.pointer e)) (hx : ev F x = .pointer p) (hy : ev F y = .pointer none) : ∀ w, (execOp (ev F) o).run P w = .ok (.value (.bool p.isNone)) w :=
  fun w => by simp [execOp, ho, hx, hy, eqGuard_plain, binOp, run_ptr_nil hu]
theorem Y.ptrNe {t yt e : TypeId} {x y : Operand} {p : Option Addr} (ho : o.op = .binOp .neq t x y yt) (hu : P.underlying t = some (.pointer e)) (hx : ev F x = .pointer p) (hy : ev F y = .pointer none) : ∀ w, (execOp (ev F) o).run P w = .ok (.value (.bool !p.isNone)) w :=
  fun w => by simp [execOp, ho, hx, hy, eqGuard_plain, binOp, run_ptr_nil hu]
theorem Y.slEq {t yt e : TypeId} {x y : Operand} {a : Option Addr} {l c : Nat} (ho : o.op = .binOp .eql t x y yt) (hu : P.underlying t = some (.slice e)) (hx : ev F x = .slice a l c) (hy : ev F y = .slice none 0 0) : ∀ w, (execOp (ev F) o).run P w = .ok (.value (.bool a.isNone)) w :=
  fun w => by simp [execOp, ho, hx, hy, eqGuard_plain, binOp, run_slice_nil hu]
theorem Y.slNe {t yt e : TypeId} {x y : Operand} {a : Option Addr} {l c : Nat} (ho : o.op = .binOp .neq t x y yt) (hu : P.underlying t = some (.slice e)) (hx : ev F x = .slice a l c) (hy : ev F y = .slice none 0 0) : ∀ w, (execOp (ev F) o).run P w = .ok (.value (.bool !a.isNone)) w :=
  fun w => by simp [execOp, ho, hx, hy, eqGuard_plain, binOp, run_slice_nil hu]
theorem Y.ifEq {t yt u : TypeId} {ms : Array (String × TypeId)} {x y : Operand} {v : Value} (ho : o.op = .binOp .eql t x y yt) (hu : P.underlying t = some (.interface ms)) (hx : ev F x = .iface u v) (hy : ev F y = .nilIface) : ∀ w, (execOp (ev F) o).run P w = .ok (.value (.bool false)) w :=
  fun w => by simp [execOp, ho, hx, hy, eqGuard_plain, binOp, run_iface_nil hu]
theorem Y.ifNe {t yt u : TypeId} {ms : Array (String × TypeId)} {x y : Operand} {v : Value} (ho : o.op = .binOp .neq t x y yt) (hu : P.underlying t = some (.interface ms)) (hx : ev F x = .iface u v) (hy : ev F y = .nilIface) : ∀ w, (execOp (ev F) o).run P w = .ok (.value (.bool true)) w :=
  fun w => by simp [execOp, ho, hx, hy, eqGuard_plain, binOp, run_iface_nil hu]
theorem Y.ifNil {t yt : TypeId} {ms : Array (String × TypeId)} {x : Operand} (ho : o.op = .binOp .eql t x (.const .nilIface) yt) (hu : P.underlying t = some (.interface ms)) (hx : ev F x = .nilIface) : ∀ w, (execOp (ev F) o).run P w = .ok (.value (.bool true)) w :=
  fun w => by
    have h : (eqGuard .eql t x (.const .nilIface) .nilIface .nilIface).run P w = .ok () w := by
      unfold eqGuard
      simp
    have he : ev F (.const .nilIface) = .nilIface := rfl
    simp [execOp, ho, hx, he, h, binOp, run_nil_nil hu]
theorem Y.loadAgg {t : TypeId} {x : Operand} {td : TypeDesc} {b off sz by_ : Nat} {z : Value} (vs : List Value) (ho : o.op = .load t x) (hu : P.underlying t = some td) (hs : scalar td = false) (hi : Inf P t sz by_ z)
    (hl : vs.length = sz) (hx : ev F x = .pointer (some ⟨b, off, none⟩)) (h : ∀ w, Mem W0 w L → ∀ j v, vs[j]? = some v → w.cell? ⟨b, off + j, none⟩ = some v) : ∀ w, Mem W0 w L → (execOp (ev F) o).run P w = .ok (.value (.agg vs.toArray)) w :=
  fun w hm => by
    simp only [execOp, ho, hx, Instr.loadAt, Instr.sureAddr, Sem.run_bind, Sem.run_pure, Result.andThen_ok, run_loadVar_agg hu hs hi hl (h w hm)]
theorem Y.build {t : TypeId} {parts : Array (Nat × Operand)} {fs : Array Field} {sz by_ : Nat} {z : Value} {cs : List Value} (ho : o.op = .build t parts) (hu : P.underlying t = some (.struct fs)) (hi : Inf P t sz by_ z)
    (places : Array (Nat × Nat)) (hp : ∀ w, (fs.mapM (m := Sem) fun f => do pure (f.offset, ← sizeOf f.type)).run P w = .ok places w)
    (hf : Instr.fill (places[·]?) z.cells (parts.map (fun (i, x) => (i, ev F x))).toList = some cs.toArray) : ∀ w, (execOp (ev F) o).run P w = .ok (.value (.agg cs.toArray)) w :=
  fun w => by
    have hz : ∀ w, (zeroValue t).run P w = .ok z w := fun w => hi.run_zero
    simp only [execOp, ho, Instr.build, Sem.run_bind, hz, Result.andThen_ok, run_underlying hu, hp, hf, Sem.run_pure]
theorem Y.field {t : TypeId} {x : Operand} {i : Nat} {fs : Array Field} {f : Field} {td : TypeDesc} {cs : Array Value} {v : Value} (ho : o.op = .field t x i) (hu : P.underlying t = some (.struct fs)) (hf : fs[i]? = some f)
    (huf : P.underlying f.type = some td) (hs : scalar td = true) (hx : ev F x = .agg cs) (hv : cs[f.offset]? = some v) : ∀ w, (execOp (ev F) o).run P w = .ok (.value v) w :=
  fun w => by
    have ha : ∀ w, (isAgg f.type).run P w = .ok false w := run_isAgg_no huf hs
    simp [execOp, ho, hx, Instr.field, run_underlying hu, hf, asAgg, part, ha, hv]
theorem Y.bytesStr {s t e : TypeId} {x : Operand} {a : Option Addr} {c l : Nat} (xs : List UInt8) (ho : o.op = .convert s t x) (hus : P.underlying s = some (.slice e)) (hue : P.underlying e = some (.int .u8)) (hut : P.underlying t = some .string)
    (hx : ev F x = .slice a l c) (hl : l = xs.length) (hrd : Rd W0 L a (bytesV xs)) : ∀ w, Mem W0 w L → (execOp (ev F) o).run P w = .ok (.value (.string (strB xs))) w :=
  fun w hm => by
    subst hl
    simp [execOp, ho, hx, run_convert_bytes_string w s t e _ _ _ hus hue hut, run_bytesStr (hrd.cells w hm) (fun h => by simpa using hrd.ne1 h)]
theorem Y.convStr {s t : TypeId} {x : Operand} {bs : ByteArray} (ho : o.op = .convert s t x) (hus : P.underlying s = some .string) (hut : P.underlying t = some .string) (hx : ev F x = .string bs) : ∀ w, (execOp (ev F) o).run P w = .ok (.value (.string bs)) w :=
  fun w => by simp [execOp, ho, hx, convert, run_underlying hus, run_underlying hut]
theorem Y.binE {op : BinOp} {t yt : TypeId} {x y : Operand} {kd : IntKind} {a b : Int} {v : Value} (v' : Value) (ho : o.op = .binOp op t x y yt) (hx : ev F x = .int kd a) (hy : ev F y = .int kd b) (hv : binI op kd a b = some v) (e : v = v') : ∀ w, (execOp (ev F) o).run P w = .ok (.value v') w := Y.bin ho hx hy (e ▸ hv)
theorem Y.add {t yt : TypeId} {x y : Operand} {a b : Int} (ho : o.op = .binOp .add t x y yt) (hx : ev F x = .int .i64 a) (hy : ev F y = .int .i64 b) (h : -9223372036854775808 ≤ a + b ∧ a + b ≤ 9223372036854775807) : ∀ w, (execOp (ev F) o).run P w = .ok (.value (.int .i64 (a + b))) w := Y.binE _ ho hx hy rfl (by rw [wrap_i64 h])
theorem Y.sub {t yt : TypeId} {x y : Operand} {a b : Int} (ho : o.op = .binOp .sub t x y yt) (hx : ev F x = .int .i64 a) (hy : ev F y = .int .i64 b) (h : -9223372036854775808 ≤ a - b ∧ a - b ≤ 9223372036854775807) : ∀ w, (execOp (ev F) o).run P w = .ok (.value (.int .i64 (a - b))) w := Y.binE _ ho hx hy rfl (by rw [wrap_i64 h])
theorem Y.mul {t yt : TypeId} {x y : Operand} {a b : Int} (ho : o.op = .binOp .mul t x y yt) (hx : ev F x = .int .i64 a) (hy : ev F y = .int .i64 b) (h : -9223372036854775808 ≤ a * b ∧ a * b ≤ 9223372036854775807) : ∀ w, (execOp (ev F) o).run P w = .ok (.value (.int .i64 (a * b))) w := Y.binE _ ho hx hy rfl (by rw [wrap_i64 h])
theorem Y.loadAt {t : TypeId} {x : Operand} {td : TypeDesc} {b i : Nat} {v : Value} {cs : List Value} {e : TypeId} {kk : Nat} {u : Nat → SObj → List Seg} (ha : At L b (.row cs e kk) u) (ho : o.op = .load t x) (hu : P.underlying t = some td) (hs : scalar td = true) (hx : ev F x = .pointer (some ⟨b, i, none⟩)) (hc : cs[i]? = some v) : ∀ w, Mem W0 w L → (execOp (ev F) o).run P w = .ok (.value v) w :=
  Y.load ho hu hs hx (fun _ hm => (hm.get ha).2.cell hc)
theorem Y.moveI {x : Operand} {kd : IntKind} {a : Int} (ho : o.op = .move x) (hx : ev F x = .int kd a) : ∀ w, (execOp (ev F) o).run P w = .ok (.value (.int kd a)) w := Y.mv _ (.inl ho) hx
theorem Y.assignI {x : Operand} {kd : IntKind} {a : Int} (ho : o.op = .assign x) (hx : ev F x = .int kd a) : ∀ w, (execOp (ev F) o).run P w = .ok (.value (.int kd a)) w := Y.mv _ (.inr ho) hx
theorem Y.moveB {x : Operand} {b : Bool} (ho : o.op = .move x) (hx : ev F x = .bool b) : ∀ w, (execOp (ev F) o).run P w = .ok (.value (.bool b)) w := Y.mv _ (.inl ho) hx
theorem Y.assignB {x : Operand} {b : Bool} (ho : o.op = .assign x) (hx : ev F x = .bool b) : ∀ w, (execOp (ev F) o).run P w = .ok (.value (.bool b)) w := Y.mv _ (.inr ho) hx
theorem Y.moveS {x : Operand} {a : Option Addr} {l c : Nat} (ho : o.op = .move x) (hx : ev F x = .slice a l c) : ∀ w, (execOp (ev F) o).run P w = .ok (.value (.slice a l c)) w := Y.mv _ (.inl ho) hx
theorem Y.assignS {x : Operand} {a : Option Addr} {l c : Nat} (ho : o.op = .assign x) (hx : ev F x = .slice a l c) : ∀ w, (execOp (ev F) o).run P w = .ok (.value (.slice a l c)) w := Y.mv _ (.inr ho) hx
theorem Y.moveP {x : Operand} {a : Option Addr} (ho : o.op = .move x) (hx : ev F x = .pointer a) : ∀ w, (execOp (ev F) o).run P w = .ok (.value (.pointer a)) w := Y.mv _ (.inl ho) hx
theorem Y.assignP {x : Operand} {a : Option Addr} (ho : o.op = .assign x) (hx : ev F x = .pointer a) : ∀ w, (execOp (ev F) o).run P w = .ok (.value (.pointer a)) w := Y.mv _ (.inr ho) hx
theorem Y.moveT {x : Operand} {s : ByteArray} (ho : o.op = .move x) (hx : ev F x = .string s) : ∀ w, (execOp (ev F) o).run P w = .ok (.value (.string s)) w := Y.mv _ (.inl ho) hx
theorem Y.assignT {x : Operand} {s : ByteArray} (ho : o.op = .assign x) (hx : ev F x = .string s) : ∀ w, (execOp (ev F) o).run P w = .ok (.value (.string s)) w := Y.mv _ (.inr ho) hx
theorem Y.moveU {x : Operand} {vs : Array Value} (ho : o.op = .move x) (hx : ev F x = .tuple vs) : ∀ w, (execOp (ev F) o).run P w = .ok (.value (.tuple vs)) w := Y.mv _ (.inl ho) hx
theorem Y.assignU {x : Operand} {vs : Array Value} (ho : o.op = .assign x) (hx : ev F x = .tuple vs) : ∀ w, (execOp (ev F) o).run P w = .ok (.value (.tuple vs)) w := Y.mv _ (.inr ho) hx
theorem Y.moveF {x : Operand} {fn : Fn} {vs us : Array Value} (ho : o.op = .move x) (hx : ev F x = .func fn vs us) : ∀ w, (execOp (ev F) o).run P w = .ok (.value (.func fn vs us)) w := Y.mv _ (.inl ho) hx
theorem Y.assignF {x : Operand} {fn : Fn} {vs us : Array Value} (ho : o.op = .assign x) (hx : ev F x = .func fn vs us) : ∀ w, (execOp (ev F) o).run P w = .ok (.value (.func fn vs us)) w := Y.mv _ (.inr ho) hx
theorem Y.moveM {x : Operand} {r : Option Nat} (ho : o.op = .move x) (hx : ev F x = .map r) : ∀ w, (execOp (ev F) o).run P w = .ok (.value (.map r)) w := Y.mv _ (.inl ho) hx
theorem Y.assignM {x : Operand} {r : Option Nat} (ho : o.op = .assign x) (hx : ev F x = .map r) : ∀ w, (execOp (ev F) o).run P w = .ok (.value (.map r)) w := Y.mv _ (.inr ho) hx
theorem Y.moveG {x : Operand} {cs : Array Value} (ho : o.op = .move x) (hx : ev F x = .agg cs) : ∀ w, (execOp (ev F) o).run P w = .ok (.value (.agg cs)) w := Y.mv _ (.inl ho) hx
theorem Y.assignG {x : Operand} {cs : Array Value} (ho : o.op = .assign x) (hx : ev F x = .agg cs) : ∀ w, (execOp (ev F) o).run P w = .ok (.value (.agg cs)) w := Y.mv _ (.inr ho) hx
theorem Y.moveW {x : Operand} {t : TypeId} {v : Value} (ho : o.op = .move x) (hx : ev F x = .iface t v) : ∀ w, (execOp (ev F) o).run P w = .ok (.value (.iface t v)) w := Y.mv _ (.inl ho) hx
theorem Y.assignW {x : Operand} {t : TypeId} {v : Value} (ho : o.op = .assign x) (hx : ev F x = .iface t v) : ∀ w, (execOp (ev F) o).run P w = .ok (.value (.iface t v)) w := Y.mv _ (.inr ho) hx
theorem Y.move {x : Operand} (v : Value) (ho : o.op = .move x) (hx : ev F x = v) : ∀ w, (execOp (ev F) o).run P w = .ok (.value v) w := Y.mv v (.inl ho) hx
theorem Y.assign {x : Operand} (v : Value) (ho : o.op = .assign x) (hx : ev F x = v) : ∀ w, (execOp (ev F) o).run P w = .ok (.value v) w := Y.mv v (.inr ho) hx
end rules
end Go.SL
