/-
  One rule for each operation of the model, over a heap that is told block by block (third part: texts, equality, copy, conversions, structs by value). No program in sight.
-/
import Derived.Test.YtjfjmhmfhkdcbabSL3
namespace Go.SL
open Go Go.RowKit

def strB (l : List UInt8) : ByteArray := ⟨l.toArray⟩
@[simp] theorem strB_size (l : List UInt8) : (strB l).size = l.length := by simp [strB, ByteArray.size]
theorem toList_strB (l : List UInt8) : (strB l).toList = l := by rw [ByteArray.toList_eq]; simp [strB]
theorem strB_toList (s : ByteArray) : strB s.toList = s := by
  rw [ByteArray.toList_eq]
  cases s
  simp [strB]
theorem str_eq (a b : ByteArray) : (a.toList == b.toList) = decide (a = b) := by
  by_cases h : a = b
  · subst h; simp
  · have : a.toList ≠ b.toList := fun e => h (by rw [← strB_toList a, ← strB_toList b, e])
    simp [h, this]
theorem strB_inj {a b : List UInt8} : strB a = strB b ↔ a = b := ⟨fun h => by rw [← toList_strB a, ← toList_strB b, h], fun h => by rw [h]⟩
theorem strB_append (a b : List UInt8) : strB a ++ strB b = strB (a ++ b) := by
  simp [strB, ByteArray.append_eq, ByteArray.ext_iff]

section rules
variable {P : Program} {W0 : World} {n : Nat} {SQ : SPost} {F : Nat → Value} {D : List Deferred} {L : List Seg} {ops : Array Oper} {rest : List Oper} {o : Oper}

/-! ### Equality -/
theorem eqGuard_plain {op : BinOp} {t : TypeId} {x y : Operand} {a b : Value} (h1 : ∀ u, a ≠ .agg u) (h2 : a ≠ .nilIface) (w : World) : (eqGuard op t x y a b).run P w = .ok () w := by
  unfold eqGuard
  cases a <;> first | exact absurd rfl h2 | exact absurd rfl (h1 _) | (cases op <;> rfl)
theorem G.strEq {t yt : TypeId} {x y : Operand} {a b : ByteArray} (ho : o.op = .binOp .eql t x y yt) (hr : runs n ops F o) {d : Nat} (hd : o.dst = some d) (hn : Nat.blt d n = true) (hx : ev F x = .string a) (hy : ev F y = .string b)
    (k : G P W0 n SQ ops rest (upd F d (.bool (decide (a = b)))) D L) : G P W0 n SQ ops (o :: rest) F D L :=
  G.val _ hr hd hn (fun w _ => by simp [execOp, ho, hx, hy, eqGuard_plain, binOp, Op.stringOp, str_eq]) k
theorem G.strNe {t yt : TypeId} {x y : Operand} {a b : ByteArray} (ho : o.op = .binOp .neq t x y yt) (hr : runs n ops F o) {d : Nat} (hd : o.dst = some d) (hn : Nat.blt d n = true) (hx : ev F x = .string a) (hy : ev F y = .string b)
    (k : G P W0 n SQ ops rest (upd F d (.bool (decide (¬ a = b)))) D L) : G P W0 n SQ ops (o :: rest) F D L :=
  G.val _ hr hd hn (fun w _ => by simp [execOp, ho, hx, hy, eqGuard_plain, binOp, Op.stringOp, str_eq]) k
theorem G.strAdd {t yt : TypeId} {x y : Operand} {a b : ByteArray} (ho : o.op = .binOp .add t x y yt) (hr : runs n ops F o) {d : Nat} (hd : o.dst = some d) (hn : Nat.blt d n = true) (hb : a.size + b.size ≤ 9223372036854775807) (hx : ev F x = .string a) (hy : ev F y = .string b)
    (k : G P W0 n SQ ops rest (upd F d (.string (a ++ b))) D L) : G P W0 n SQ ops (o :: rest) F D L :=
  G.val _ hr hd hn (fun w _ => by
    have h : ¬ (((a.size + b.size : Nat) : Int) > IntKind.i64.max) := by
      have : IntKind.i64.max = 9223372036854775807 := by decide
      omega
    simp only [execOp, ho, hx, hy, eqGuard_plain, binOp, Op.stringOp, Sem.run_bind, h, if_false]
    rw [eqGuard_ne (by decide) (by decide)]
    rfl) k
theorem G.boolEq {t yt : TypeId} {x y : Operand} {a b : Bool} (ho : o.op = .binOp .eql t x y yt) (hr : runs n ops F o) {d : Nat} (hd : o.dst = some d) (hn : Nat.blt d n = true) (hu : P.underlying t = some .bool) (hx : ev F x = .bool a) (hy : ev F y = .bool b)
    (k : G P W0 n SQ ops rest (upd F d (.bool (a == b))) D L) : G P W0 n SQ ops (o :: rest) F D L :=
  G.val _ hr hd hn (fun w _ => by simp [execOp, ho, hx, hy, eqGuard_plain, binOp, run_equal_bool, hu]) k
theorem G.boolNe {t yt : TypeId} {x y : Operand} {a b : Bool} (ho : o.op = .binOp .neq t x y yt) (hr : runs n ops F o) {d : Nat} (hd : o.dst = some d) (hn : Nat.blt d n = true) (hu : P.underlying t = some .bool) (hx : ev F x = .bool a) (hy : ev F y = .bool b)
    (k : G P W0 n SQ ops rest (upd F d (.bool (!(a == b)))) D L) : G P W0 n SQ ops (o :: rest) F D L :=
  G.val _ hr hd hn (fun w _ => by simp [execOp, ho, hx, hy, eqGuard_plain, binOp, run_equal_bool, hu]) k
theorem run_ptr_nil {t e : TypeId} (hu : P.underlying t = some (.pointer e)) (p : Option Addr) (w : World) : (Op.equal t (.pointer p) (.pointer none)).run P w = .ok p.isNone w := by
  have h : ∀ d : Nat, (Op.equalIn (d + 1) t (.pointer p) (.pointer none)).run P w = .ok p.isNone w := fun d => by cases p <;> simp [Op.equalIn, run_underlying hu]
  exact h 9999
theorem run_slice_nil {t e : TypeId} (hu : P.underlying t = some (.slice e)) (a : Option Addr) (l c : Nat) (w : World) : (Op.equal t (.slice a l c) (.slice none 0 0)).run P w = .ok a.isNone w := by
  have h : ∀ d : Nat, (Op.equalIn (d + 1) t (.slice a l c) (.slice none 0 0)).run P w = .ok a.isNone w := fun d => by cases a <;> simp [Op.equalIn, run_underlying hu]
  exact h 9999
theorem G.ptrEq {t yt e : TypeId} {x y : Operand} {p : Option Addr} (ho : o.op = .binOp .eql t x y yt) (hr : runs n ops F o) {d : Nat} (hd : o.dst = some d) (hn : Nat.blt d n = true) (hu : P.underlying t = some (.pointer e)) (hx : ev F x = .pointer p) (hy : ev F y = .pointer none)
    (k : G P W0 n SQ ops rest (upd F d (.bool p.isNone)) D L) : G P W0 n SQ ops (o :: rest) F D L :=
  G.val _ hr hd hn (fun w _ => by simp [execOp, ho, hx, hy, eqGuard_plain, binOp, run_ptr_nil hu]) k
theorem G.ptrNe {t yt e : TypeId} {x y : Operand} {p : Option Addr} (ho : o.op = .binOp .neq t x y yt) (hr : runs n ops F o) {d : Nat} (hd : o.dst = some d) (hn : Nat.blt d n = true) (hu : P.underlying t = some (.pointer e)) (hx : ev F x = .pointer p) (hy : ev F y = .pointer none)
    (k : G P W0 n SQ ops rest (upd F d (.bool !p.isNone)) D L) : G P W0 n SQ ops (o :: rest) F D L :=
  G.val _ hr hd hn (fun w _ => by simp [execOp, ho, hx, hy, eqGuard_plain, binOp, run_ptr_nil hu]) k
theorem G.slEq {t yt e : TypeId} {x y : Operand} {a : Option Addr} {l c : Nat} (ho : o.op = .binOp .eql t x y yt) (hr : runs n ops F o) {d : Nat} (hd : o.dst = some d) (hn : Nat.blt d n = true) (hu : P.underlying t = some (.slice e)) (hx : ev F x = .slice a l c) (hy : ev F y = .slice none 0 0)
    (k : G P W0 n SQ ops rest (upd F d (.bool a.isNone)) D L) : G P W0 n SQ ops (o :: rest) F D L :=
  G.val _ hr hd hn (fun w _ => by simp [execOp, ho, hx, hy, eqGuard_plain, binOp, run_slice_nil hu]) k
theorem G.slNe {t yt e : TypeId} {x y : Operand} {a : Option Addr} {l c : Nat} (ho : o.op = .binOp .neq t x y yt) (hr : runs n ops F o) {d : Nat} (hd : o.dst = some d) (hn : Nat.blt d n = true) (hu : P.underlying t = some (.slice e)) (hx : ev F x = .slice a l c) (hy : ev F y = .slice none 0 0)
    (k : G P W0 n SQ ops rest (upd F d (.bool !a.isNone)) D L) : G P W0 n SQ ops (o :: rest) F D L :=
  G.val _ hr hd hn (fun w _ => by simp [execOp, ho, hx, hy, eqGuard_plain, binOp, run_slice_nil hu]) k
theorem run_iface_nil {t : TypeId} {ms : Array (String × TypeId)} (hu : P.underlying t = some (.interface ms)) (u : TypeId) (v : Value) (w : World) : (Op.equal t (.iface u v) .nilIface).run P w = .ok false w := by
  have h : ∀ d : Nat, (Op.equalIn (d + 1) t (.iface u v) .nilIface).run P w = .ok false w := fun d => by simp [Op.equalIn, run_underlying hu]
  exact h 9999
theorem run_nil_nil {t : TypeId} {ms : Array (String × TypeId)} (hu : P.underlying t = some (.interface ms)) (w : World) : (Op.equal t .nilIface .nilIface).run P w = .ok true w := by
  have h : ∀ d : Nat, (Op.equalIn (d + 1) t .nilIface .nilIface).run P w = .ok true w := fun d => by simp [Op.equalIn, run_underlying hu]
  exact h 9999
theorem G.ifEq {t yt u : TypeId} {ms : Array (String × TypeId)} {x y : Operand} {v : Value} (ho : o.op = .binOp .eql t x y yt) (hr : runs n ops F o) {d : Nat} (hd : o.dst = some d) (hn : Nat.blt d n = true) (hu : P.underlying t = some (.interface ms)) (hx : ev F x = .iface u v) (hy : ev F y = .nilIface)
    (k : G P W0 n SQ ops rest (upd F d (.bool false)) D L) : G P W0 n SQ ops (o :: rest) F D L :=
  G.val _ hr hd hn (fun w _ => by simp [execOp, ho, hx, hy, eqGuard_plain, binOp, run_iface_nil hu]) k
theorem G.ifNe {t yt u : TypeId} {ms : Array (String × TypeId)} {x y : Operand} {v : Value} (ho : o.op = .binOp .neq t x y yt) (hr : runs n ops F o) {d : Nat} (hd : o.dst = some d) (hn : Nat.blt d n = true) (hu : P.underlying t = some (.interface ms)) (hx : ev F x = .iface u v) (hy : ev F y = .nilIface)
    (k : G P W0 n SQ ops rest (upd F d (.bool true)) D L) : G P W0 n SQ ops (o :: rest) F D L :=
  G.val _ hr hd hn (fun w _ => by simp [execOp, ho, hx, hy, eqGuard_plain, binOp, run_iface_nil hu]) k
/-- nil held against nil: one of the two is written as nil -/
theorem G.ifNil {t yt : TypeId} {ms : Array (String × TypeId)} {x : Operand} (ho : o.op = .binOp .eql t x (.const .nilIface) yt) (hr : runs n ops F o) {d : Nat} (hd : o.dst = some d) (hn : Nat.blt d n = true) (hu : P.underlying t = some (.interface ms)) (hx : ev F x = .nilIface)
    (k : G P W0 n SQ ops rest (upd F d (.bool true)) D L) : G P W0 n SQ ops (o :: rest) F D L :=
  G.val _ hr hd hn (fun w _ => by
    have h : (eqGuard .eql t x (.const .nilIface) .nilIface .nilIface).run P w = .ok () w := by
      unfold eqGuard
      simp
    have he : ev F (.const .nilIface) = .nilIface := rfl
    simp [execOp, ho, hx, he, h, binOp, run_nil_nil hu]) k

/-! ### New variables -/
theorem G.allocC {t : TypeId} {sz by_ : Nat} {z : Value} {cs : List Value} (ho : o.op = .alloc t) (hr : runs n ops F o) {d : Nat} (hd : o.dst = some d) (hn : Nat.blt d n = true) (hi : Inf P t sz by_ z) (hcs : z.cells.toList = cs)
    (k : ∀ b, G P W0 n SQ ops rest (upd F d (.pointer (some ⟨b, 0, none⟩))) D ([(b, .row cs t cs.length)] :: L)) : G P W0 n SQ ops (o :: rest) F D L := by
  subst hcs
  exact G.alloc ho hr hd hn hi k
theorem G.boxC {t : TypeId} {x : Operand} {v : Value} {cs : List Value} (ho : o.op = .box t x) (hr : runs n ops F o) {d : Nat} (hd : o.dst = some d) (hn : Nat.blt d n = true) (hx : ev F x = v) (hcs : v.cells.toList = cs)
    (k : ∀ b, G P W0 n SQ ops rest (upd F d (.pointer (some ⟨b, 0, none⟩))) D ([(b, .row cs t cs.length)] :: L)) : G P W0 n SQ ops (o :: rest) F D L := by
  subst hcs
  subst hx
  exact G.box ho hr hd hn k
theorem G.boxI {t : TypeId} {x : Operand} {kd : IntKind} {a : Int} (ho : o.op = .box t x) (hr : runs n ops F o) {d : Nat} (hd : o.dst = some d) (hn : Nat.blt d n = true) (hx : ev F x = .int kd a)
    (k : ∀ b, G P W0 n SQ ops rest (upd F d (.pointer (some ⟨b, 0, none⟩))) D ([(b, .row [.int kd a] t 1)] :: L)) : G P W0 n SQ ops (o :: rest) F D L := G.boxC ho hr hd hn hx rfl k
theorem G.boxB {t : TypeId} {x : Operand} {a : Bool} (ho : o.op = .box t x) (hr : runs n ops F o) {d : Nat} (hd : o.dst = some d) (hn : Nat.blt d n = true) (hx : ev F x = .bool a)
    (k : ∀ b, G P W0 n SQ ops rest (upd F d (.pointer (some ⟨b, 0, none⟩))) D ([(b, .row [.bool a] t 1)] :: L)) : G P W0 n SQ ops (o :: rest) F D L := G.boxC ho hr hd hn hx rfl k
theorem G.boxS {t : TypeId} {x : Operand} {a : Option Addr} {l c : Nat} (ho : o.op = .box t x) (hr : runs n ops F o) {d : Nat} (hd : o.dst = some d) (hn : Nat.blt d n = true) (hx : ev F x = .slice a l c)
    (k : ∀ b, G P W0 n SQ ops rest (upd F d (.pointer (some ⟨b, 0, none⟩))) D ([(b, .row [.slice a l c] t 1)] :: L)) : G P W0 n SQ ops (o :: rest) F D L := G.boxC ho hr hd hn hx rfl k
theorem G.boxP {t : TypeId} {x : Operand} {a : Option Addr} (ho : o.op = .box t x) (hr : runs n ops F o) {d : Nat} (hd : o.dst = some d) (hn : Nat.blt d n = true) (hx : ev F x = .pointer a)
    (k : ∀ b, G P W0 n SQ ops rest (upd F d (.pointer (some ⟨b, 0, none⟩))) D ([(b, .row [.pointer a] t 1)] :: L)) : G P W0 n SQ ops (o :: rest) F D L := G.boxC ho hr hd hn hx rfl k
theorem G.boxT {t : TypeId} {x : Operand} {s : ByteArray} (ho : o.op = .box t x) (hr : runs n ops F o) {d : Nat} (hd : o.dst = some d) (hn : Nat.blt d n = true) (hx : ev F x = .string s)
    (k : ∀ b, G P W0 n SQ ops rest (upd F d (.pointer (some ⟨b, 0, none⟩))) D ([(b, .row [.string s] t 1)] :: L)) : G P W0 n SQ ops (o :: rest) F D L := G.boxC ho hr hd hn hx rfl k
theorem G.boxF {t : TypeId} {x : Operand} {f : Fn} {vs us : Array Value} (ho : o.op = .box t x) (hr : runs n ops F o) {d : Nat} (hd : o.dst = some d) (hn : Nat.blt d n = true) (hx : ev F x = .func f vs us)
    (k : ∀ b, G P W0 n SQ ops rest (upd F d (.pointer (some ⟨b, 0, none⟩))) D ([(b, .row [.func f vs us] t 1)] :: L)) : G P W0 n SQ ops (o :: rest) F D L := G.boxC ho hr hd hn hx rfl k
theorem G.boxW {t u : TypeId} {x : Operand} {v : Value} (ho : o.op = .box t x) (hr : runs n ops F o) {d : Nat} (hd : o.dst = some d) (hn : Nat.blt d n = true) (hx : ev F x = .iface u v)
    (k : ∀ b, G P W0 n SQ ops rest (upd F d (.pointer (some ⟨b, 0, none⟩))) D ([(b, .row [.iface u v] t 1)] :: L)) : G P W0 n SQ ops (o :: rest) F D L := G.boxC ho hr hd hn hx rfl k
theorem G.boxM {t : TypeId} {x : Operand} {r : Option Nat} (ho : o.op = .box t x) (hr : runs n ops F o) {d : Nat} (hd : o.dst = some d) (hn : Nat.blt d n = true) (hx : ev F x = .map r)
    (k : ∀ b, G P W0 n SQ ops rest (upd F d (.pointer (some ⟨b, 0, none⟩))) D ([(b, .row [.map r] t 1)] :: L)) : G P W0 n SQ ops (o :: rest) F D L := G.boxC ho hr hd hn hx rfl k
theorem G.boxG {t : TypeId} {x : Operand} {cs : List Value} (ho : o.op = .box t x) (hr : runs n ops F o) {d : Nat} (hd : o.dst = some d) (hn : Nat.blt d n = true) (hx : ev F x = .agg cs.toArray)
    (k : ∀ b, G P W0 n SQ ops rest (upd F d (.pointer (some ⟨b, 0, none⟩))) D ([(b, .row cs t cs.length)] :: L)) : G P W0 n SQ ops (o :: rest) F D L := G.boxC ho hr hd hn hx rfl k

/-! ### Structs and arrays by value -/
theorem run_loadVar_agg {t : TypeId} {td : TypeDesc} {sz by_ : Nat} {z : Value} (hu : P.underlying t = some td) (hs : scalar td = false) (hi : Inf P t sz by_ z) {w : World} {b off : Nat} {vs : List Value} (hl : vs.length = sz)
    (h : ∀ j v, vs[j]? = some v → w.cell? ⟨b, off + j, none⟩ = some v) : (loadVar t ⟨b, off, none⟩).run P w = .ok (.agg vs.toArray) w := by
  have ha : ∀ w, (isAgg t).run P w = .ok true w := run_isAgg_yes hu hs
  have hz : ∀ w, (sizeOf t).run P w = .ok sz w := fun w => hi.run_size
  subst hl
  have hc := run_loadCells_list (P := P) w ⟨b, off, none⟩ vs (fun j v hv => by rw [add_mul_addr]; exact h j v hv)
  simp [loadVar, ha, hz, hc]
theorem G.loadAgg {t : TypeId} {x : Operand} {td : TypeDesc} {b off sz by_ : Nat} {z : Value} (vs : List Value) (ho : o.op = .load t x) (hr : runs n ops F o) {d : Nat} (hd : o.dst = some d) (hn : Nat.blt d n = true) (hu : P.underlying t = some td) (hs : scalar td = false) (hi : Inf P t sz by_ z)
    (hl : vs.length = sz) (hx : ev F x = .pointer (some ⟨b, off, none⟩)) (h : ∀ w, Mem W0 w L → ∀ j v, vs[j]? = some v → w.cell? ⟨b, off + j, none⟩ = some v) (k : G P W0 n SQ ops rest (upd F d (.agg vs.toArray)) D L) : G P W0 n SQ ops (o :: rest) F D L :=
  G.val _ hr hd hn (fun w hm => by
    simp only [execOp, ho, hx, Instr.loadAt, Instr.sureAddr, Sem.run_bind, Sem.run_pure, Result.andThen_ok, run_loadVar_agg hu hs hi hl (h w hm)]) k
theorem agg_of_row {w : World} {L : List Seg} {b off : Nat} {cs vs : List Value} {t : TypeId} {kk : Nat} {u : Nat → SObj → List Seg} (hm : Mem W0 w L) (ha : At L b (.row cs t kk) u) (hv : ∀ j v, vs[j]? = some v → cs[off + j]? = some v) : ∀ j v, vs[j]? = some v → w.cell? ⟨b, off + j, none⟩ = some v :=
  fun j v h => (hm.get ha).2.cell (hv j v h)
/-- a struct or an array written to its variable -/
theorem G.storeAgg {t : TypeId} {x y : Operand} {b off : Nat} {cs vs : List Value} {e : TypeId} {kk sz by_ : Nat} {z : Value} {u : Nat → SObj → List Seg} (hau : ∀ o', At (u b o') b o' u) (heq : u b (.row cs e kk) = L) (ho : o.op = .store t x y) (hr : runs n ops F o) (hd : o.dst = none)
    (hi : Inf P t sz by_ z) (hx : ev F x = .pointer (some ⟨b, off, none⟩)) (hy : ev F y = .agg vs.toArray) (hl : vs.length = sz) (hok : ∀ v ∈ vs, cellsOk v = true) (hlt : off + vs.length ≤ cs.length)
    (k : G P W0 n SQ ops rest F D (u b (.row (cs.take off ++ vs ++ cs.drop (off + vs.length)) e kk))) : G P W0 n SQ ops (o :: rest) F D L :=
  G.effSkip hr hd fun w hm => by
    subst heq
    have hsz : ∀ w, (sizeOf t).run P w = .ok sz w := fun w => hi.run_size
    obtain ⟨w', h1, h2⟩ := Mem.overs (P := P) hau vs cs w off 0 hm (by simpa using hlt) hok
    refine ⟨w', _, ?_, h2, k⟩
    simp [execOp, ho, hx, hy, Instr.storeAt, Instr.sureAddr, storeVar, Value.cells, hsz, hl, h1]
theorem G.build {t : TypeId} {parts : Array (Nat × Operand)} {fs : Array Field} {sz by_ : Nat} {z : Value} {cs : List Value} (ho : o.op = .build t parts) (hr : runs n ops F o) {d : Nat} (hd : o.dst = some d) (hn : Nat.blt d n = true) (hu : P.underlying t = some (.struct fs)) (hi : Inf P t sz by_ z)
    (places : Array (Nat × Nat)) (hp : ∀ w, (fs.mapM (m := Sem) fun f => do pure (f.offset, ← sizeOf f.type)).run P w = .ok places w)
    (hf : Instr.fill (places[·]?) z.cells (parts.map (fun (i, x) => (i, ev F x))).toList = some cs.toArray)
    (k : G P W0 n SQ ops rest (upd F d (.agg cs.toArray)) D L) : G P W0 n SQ ops (o :: rest) F D L :=
  G.val _ hr hd hn (fun w _ => by
    have hz : ∀ w, (zeroValue t).run P w = .ok z w := fun w => hi.run_zero
    simp only [execOp, ho, Instr.build, Sem.run_bind, hz, Result.andThen_ok, run_underlying hu, hp, hf, Sem.run_pure]) k
theorem G.field {t : TypeId} {x : Operand} {i : Nat} {fs : Array Field} {f : Field} {td : TypeDesc} {cs : Array Value} {v : Value} (ho : o.op = .field t x i) (hr : runs n ops F o) {d : Nat} (hd : o.dst = some d) (hn : Nat.blt d n = true) (hu : P.underlying t = some (.struct fs)) (hf : fs[i]? = some f)
    (huf : P.underlying f.type = some td) (hs : scalar td = true) (hx : ev F x = .agg cs) (hv : cs[f.offset]? = some v) (k : G P W0 n SQ ops rest (upd F d v) D L) : G P W0 n SQ ops (o :: rest) F D L :=
  G.val _ hr hd hn (fun w _ => by
    have ha : ∀ w, (isAgg f.type).run P w = .ok false w := run_isAgg_no huf hs
    simp [execOp, ho, hx, Instr.field, run_underlying hu, hf, asAgg, part, ha, hv]) k

/-! ### Bytes and texts -/
theorem foldl_push (l : List UInt8) : ∀ s : ByteArray, (l.map fun c => (c.toNat : Int)).foldl (fun r (m : Int) => r.push (UInt8.ofNat m.toNat)) s = s ++ strB l := by
  induction l with
  | nil => intro s; simp [strB, ByteArray.ext_iff]
  | cons c l ih =>
    intro s
    simp only [List.map_cons, List.foldl_cons, ih]
    have : UInt8.ofNat ((c.toNat : Int)).toNat = c := by simp
    rw [this]
    simp [strB, ByteArray.ext_iff, ByteArray.push]
theorem run_bytesStr {w : World} {a : Option Addr} {c : Nat} {xs : List UInt8} (h : ∀ j, j < (bytesV xs).length → ∃ b off, a = some ⟨b, off, none⟩ ∧ w.cell? ⟨b, off + j, none⟩ = (bytesV xs)[j]?) (hne : a = none → xs.length = 0) :
    (Conv.bytesToString (.slice a xs.length c)).run P w = .ok (.string (strB xs)) w := by
  cases a with
  | none =>
    have : xs = [] := List.eq_nil_of_length_eq_zero (hne rfl)
    subst this
    rfl
  | some x =>
    have hl : (loadCells x xs.length).run P w = .ok ((xs.map fun c => (c.toNat : Int)).map (Value.int .u8)).toArray w := by
      have h1 := run_firstCells (P := P) (sz := 1) (m := xs.length) (c := c) (a := some x) (vs := bytesV xs) (by simp) h xs.length rfl (fun h => by cases h)
      simp only [Builtin.firstCells, Nat.mul_one] at h1
      rw [h1]
      congr 2
      simp [bytesV, byteV]
    rw [run_bytesToString w x xs.length c _ hl, foldl_push]
    simp [strB, ByteArray.ext_iff, ByteArray.empty, ByteArray.emptyWithCapacity]
    rfl
theorem G.bytesStr {s t e : TypeId} {x : Operand} {a : Option Addr} {c l : Nat} (xs : List UInt8) (ho : o.op = .convert s t x) (hr : runs n ops F o) {d : Nat} (hd : o.dst = some d) (hn : Nat.blt d n = true) (hus : P.underlying s = some (.slice e)) (hue : P.underlying e = some (.int .u8)) (hut : P.underlying t = some .string)
    (hx : ev F x = .slice a l c) (hl : l = xs.length) (hrd : Rd W0 L a (bytesV xs)) (k : G P W0 n SQ ops rest (upd F d (.string (strB xs))) D L) : G P W0 n SQ ops (o :: rest) F D L :=
  G.val _ hr hd hn (fun w hm => by
    subst hl
    simp [execOp, ho, hx, run_convert_bytes_string w s t e _ _ _ hus hue hut, run_bytesStr (hrd.cells w hm) (fun h => by simpa using hrd.ne1 h)]) k
theorem freeze_ne {w : World} {b off j : Nat} (hj : j ≠ b) : (w.freeze ⟨b, off, none⟩ 1).heap[j]? = w.heap[j]? := by
  unfold World.freeze
  rw [if_neg (by decide)]
  show (Array.modify _ _ _)[j]? = _
  rw [Array.getElem?_modify, if_neg (fun e => hj e.symm)]
theorem freeze_eq {w : World} {b off lo hi : Nat} {c : Array Value} {t : TypeId} (h : w.heap[b]? = some (.cells c t (lo, hi))) : (w.freeze ⟨b, off, none⟩ 1).heap[b]? = some (.cells c t (if lo == hi then (off, off + 1) else (min lo off, max hi (off + 1)))) := by
  unfold World.freeze
  rw [if_neg (by decide)]
  show (Array.modify _ _ _)[b]? = _
  rw [Array.getElem?_modify, if_pos rfl, h]
  rfl
theorem freeze_below {W0 w : World} {b off : Nat} (hb : Below W0.heap.size W0 w) (h0 : W0.heap.size ≤ b) : Below W0.heap.size W0 (w.freeze ⟨b, off, none⟩ 1) := by
  have hs : (w.freeze ⟨b, off, none⟩ 1).heap.size = w.heap.size := by
    unfold World.freeze
    rw [if_neg (by decide)]
    show (Array.modify _ _ _).size = _
    simp
  refine ⟨?_, ?_, ?_, by rw [hs]; exact hb.size, fun j hj => (freeze_ne (by omega)).trans (hb.block j hj)⟩
  · unfold World.freeze; rw [if_neg (by decide)]; exact hb.os
  · unfold World.freeze; rw [if_neg (by decide)]; exact hb.tape
  · unfold World.freeze; rw [if_neg (by decide)]; exact hb.output
/-- a byte slice converted to its own type: what the translator lays behind a constant's bytes -/
theorem G.convSame {s e : TypeId} {x : Operand} {b l c : Nat} {cs : List Value} {e' : TypeId} {u : Nat → SObj → List Seg} (ha : At L b (.row cs e' cs.length) u) (hu0 : u b (.row cs e' cs.length) = L) (ho : o.op = .convert s s x) (hr : runs n ops F o) {d : Nat} (hd : o.dst = some d) (hn : Nat.blt d n = true) (hus : P.underlying s = some (.slice e)) (hue : P.underlying e = some (.int .u8))
    (hx : ev F x = .slice (some ⟨b, 0, none⟩) l c) (k : G P W0 n SQ ops rest (upd F d (.slice (some ⟨b, 0, none⟩) l c)) D L) : G P W0 n SQ ops (o :: rest) F D L :=
  G.eff hr hd hn fun w hm => by
    obtain ⟨h0, rest', fr, h1, h2, h3⟩ := hm.get ha
    have hr0 : rest' = [] := List.eq_nil_of_length_eq_zero (by simp only [List.length_append] at h2; omega)
    subst hr0
    have hsh : w.shape? b = some (e', cs.length) := by simp [World.shape?, h1]
    refine ⟨_, w.freeze ⟨b, cs.length, none⟩ 1, L, ?_, ?_, k⟩
    · have : (markStringish ⟨b, 0, none⟩).run P w = .ok () (w.freeze ⟨b, cs.length, none⟩ 1) := by simp [markStringish, hsh]
      simp [execOp, ho, hx, convert, run_underlying hus, run_underlying hue, this]
    · rw [← hu0]
      obtain ⟨lo, hi⟩ := fr
      refine hm.change ha (freeze_below hm.below h0) (fun j _ hj => freeze_ne hj) (.inl rfl) ⟨[], _, freeze_eq h1, by simp, ?_⟩
      right
      rcases h3 with h3 | h3
      · injection h3 with h3 h4
        subst h3 h4
        simp
      · split
        · simp
        · simp only at h3 ⊢; omega
theorem G.strBytes {s t e : TypeId} {x : Operand} {bs : ByteArray} (ho : o.op = .convert s t x) (hr : runs n ops F o) {d : Nat} (hd : o.dst = some d) (hn : Nat.blt d n = true) (hus : P.underlying s = some .string) (hut : P.underlying t = some (.slice e)) (hue : P.underlying e = some (.int .u8))
    (hx : ev F x = .string bs) (k : ∀ b c, bs.size ≤ c → G P W0 n SQ ops rest (upd F d (.slice (some ⟨b, 0, none⟩) bs.size c)) D ([(b, .row (bytesV bs.toList) e c)] :: L)) : G P W0 n SQ ops (o :: rest) F D L :=
  G.eff hr hd hn fun w hm => by
    have hlen : (bytesV bs.toList).length = bs.size := by rw [bytesV_length, ByteArray.toList_eq]; rfl
    have hge := grownCap_ge w bs.size 0 e
    have hcells : (bs.data.map fun b => Value.int .u8 (b.toNat : Int)) ++ Array.replicate (grownCap w bs.size 0 e - bs.size) (Value.int .u8 0) = (bytesV bs.toList ++ List.replicate (grownCap w bs.size 0 e - bs.size) (Value.int .u8 0)).toArray := by
      rw [ByteArray.toList_eq]
      apply Array.ext'
      simp [bytesV, byteV]
    have hsz : (bytesV bs.toList ++ List.replicate (grownCap w bs.size 0 e - bs.size) (Value.int .u8 0)).length = grownCap w bs.size 0 e := by rw [List.length_append, hlen, List.length_replicate]; omega
    have hm1 := hm.drew.alloc _ (Holds.spare w.drew (bytesV bs.toList) (List.replicate (grownCap w bs.size 0 e - bs.size) (Value.int .u8 0)) e)
    rw [hsz] at hm1
    -- the mark behind the block's end
    have hfz : ∀ (W : World) (b m : Nat) (cs : List Value), W.heap[b]? = some (.cells cs.toArray e) → cs.length = m → ∀ L', Mem W0 W ([(b, .row (bytesV bs.toList) e m)] :: L') → Mem W0 (W.freeze ⟨b, m, none⟩ 1) ([(b, .row (bytesV bs.toList) e m)] :: L') := by
      intro W b m cs hW hcs L' hM
      have h0 := (hM.get At.here).1
      obtain ⟨rest', fr, h1, h2, h3⟩ := (hM.get At.here).2
      have h1' := h1
      rw [hW] at h1'
      injection h1' with h1'
      injection h1' with h4 h5 h6
      subst h6
      exact hM.change At.here (freeze_below hM.below h0) (fun j _ hj => freeze_ne hj) (.inl rfl) ⟨rest', (m, m + 1), (freeze_eq h1).trans (by simp), h2, .inr (by simp)⟩
    have hblk : (w.drew.alloc (.cells (bytesV bs.toList ++ List.replicate (grownCap w bs.size 0 e - bs.size) (Value.int .u8 0)).toArray e)).heap[w.heap.size]? = some (.cells (bytesV bs.toList ++ List.replicate (grownCap w bs.size 0 e - bs.size) (Value.int .u8 0)).toArray e) := by
      show (w.drew.heap.push _)[w.drew.heap.size]? = _
      exact Array.getElem?_push_size
    have hm2 := hfz _ w.heap.size _ _ hblk hsz L hm1
    refine ⟨_, _, _, ?_, hm2, k w.heap.size _ hge⟩
    have hsh : (w.drew.alloc (.cells (bytesV bs.toList ++ List.replicate (grownCap w bs.size 0 e - bs.size) (Value.int .u8 0)).toArray e)).shape? w.heap.size = some (e, grownCap w bs.size 0 e) := by
      unfold World.shape?
      rw [hblk]
      simp only [List.size_toArray, hsz]
    have hcv : (Conv.stringToBytes e bs).run P w = .ok (.slice (some ⟨w.heap.size, 0, none⟩) bs.size (grownCap w bs.size 0 e)) ((w.drew.alloc (.cells (bytesV bs.toList ++ List.replicate (grownCap w bs.size 0 e - bs.size) (Value.int .u8 0)).toArray e)).freeze ⟨w.heap.size, grownCap w bs.size 0 e, none⟩ 1) := by
      simp only [Conv.stringToBytes, Sem.run_bind, run_choose, Question.forced, Bool.false_eq_true, if_false, Result.andThen_ok]
      show Result.andThen ((Go.newRow e ((bs.data.map fun b => Value.int .u8 (b.toNat : Int)) ++ Array.replicate (grownCap w bs.size 0 e - bs.size) (Value.int .u8 0))).run P w.drew) _ = _
      rw [hcells]
      simp only [Go.newRow, Sem.run_bind, run_newObj, World.alloc_eq, Result.andThen_ok, Sem.run_pure, markStringish, run_shape]
      rw [show w.drew.heap.size = w.heap.size from rfl, hsh]
      rfl
    have hcv' : (convert s t (.string bs)).run P w = (Conv.stringToBytes e bs).run P w := by simp [convert, run_underlying hus, run_underlying hut, run_underlying hue]
    simp only [execOp, ho, hx, Sem.run_bind, hcv', hcv, Result.andThen_ok, Sem.run_pure]
theorem G.convStr {s t : TypeId} {x : Operand} {bs : ByteArray} (ho : o.op = .convert s t x) (hr : runs n ops F o) {d : Nat} (hd : o.dst = some d) (hn : Nat.blt d n = true) (hus : P.underlying s = some .string) (hut : P.underlying t = some .string) (hx : ev F x = .string bs) (k : G P W0 n SQ ops rest (upd F d (.string bs)) D L) : G P W0 n SQ ops (o :: rest) F D L :=
  G.val _ hr hd hn (fun w _ => by simp [execOp, ho, hx, convert, run_underlying hus, run_underlying hut]) k
/-- copy onto cells that are known -/
theorem G.copy {x y : Operand} {t t2 e : TypeId} {b off l c m c2 sz by_ : Nat} {a : Option Addr} {z : Value} {cs vs : List Value} {e' : TypeId} {kk : Nat} {u : Nat → SObj → List Seg} (hau : ∀ o', At (u b o') b o' u) (heq : u b (.row cs e' kk) = L) (ho : o.op = .call { callee := .builtin .copy, args := #[x, y], argTypes := #[t, t2] }) (hr : runs n ops F o) {d : Nat} (hd : o.dst = some d) (hn : Nat.blt d n = true)
    (hu : P.underlying t = some (.slice e)) (hi : Inf P e sz by_ z) (hx : ev F x = .slice (some ⟨b, off, none⟩) l c) (hy : ev F y = .slice a m c2) (hsz0 : 0 < sz) (hvs : vs.length = min m l * sz) (hrd : Rd W0 L a vs) (hok : ∀ v ∈ vs, cellsOk v = true) (hlt : off + vs.length ≤ cs.length)
    (k : G P W0 n SQ ops rest (upd F d (.int .i64 (min m l : Nat))) D (u b (.row (cs.take off ++ vs ++ cs.drop (off + vs.length)) e' kk))) : G P W0 n SQ ops (o :: rest) F D L :=
  G.eff hr hd hn fun w hm => by
    subst heq
    have hsz : ∀ w, (sizeOf e).run P w = .ok sz w := fun w => hi.run_size
    obtain ⟨w', h1, h2⟩ := Mem.overs (P := P) hau vs cs w off 0 hm (by simpa using hlt) hok
    have hfc : (Builtin.firstCells sz (min m l) (.slice a m c2)).run P w = .ok vs.toArray w := by
      have := run_firstCells (P := P) (w := w) (m := min m l) (c := c2) hvs (hrd.cells w hm) (min m l) rfl (hrd.ne hvs hsz0)
      cases a with
      | none => simpa [Builtin.firstCells] using this
      | some a => exact this
    refine ⟨_, w', _, ?_, h2, k⟩
    simp [execOp, ho, hx, hy, resolve, invoke, builtin, Builtin.copy_, run_underlying hu, hsz, Builtin.lenOf, hfc, h1, goInt]
end rules
end Go.SL
