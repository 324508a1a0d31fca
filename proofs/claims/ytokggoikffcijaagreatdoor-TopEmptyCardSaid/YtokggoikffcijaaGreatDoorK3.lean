/-
  The evaluator: maps, calls, regions, code, functions. No program in sight.
-/
import Derived.Test.YtokggoikffcijaaGreatDoorK2
import Derived.Maps.RangeRun
/-
  copy, clear, maps, division, shifts, floats, signs, the least and the greatest, structs compared. No program in sight.
-/
namespace Go.Ev
open Go Go.SL Go.RowKit
noncomputable section
section
variable {P : Program} {W0 w : World} {φ : Phi} {h : Hp}

/-! ### copy, clear -/
def elemsN (sz : Nat) (h : Hp) (x : V) (k : Nat) : Option (T V) :=
  match x with
  | .ns => some (.bs 0 0)
  | .sl a o _ _ => match PT.get a h.mem with
    | some (.row _ _ c) => bif Nat.ble (o + k * sz) (T.size c) then some (T.sub c o (k * sz)) else none
    | _ => none
  | .s n x => bif Nat.beq sz 1 then some (.bs k (x / 256 ^ (n - k))) else none
  | _ => none
def lenV (x : V) : Option Nat := match x with
  | .ns => some 0
  | .sl _ _ n _ => some n
  | .s n _ => some n
  | _ => none
theorem elemsN_run {sz m k : Nat} {u : T V} {x : V} {xv : Value} (hs : Sm W0 φ h w) (hl : lenV x = some m) (hk : k ≤ m) (he : elemsN sz h x k = some u) (hv : VR φ x xv) :
    ∃ vs, (∀ w', (Builtin.lenOf xv).run P w' = .ok m w') ∧ (Builtin.firstCells sz k xv).run P w = .ok vs.toArray w ∧ TR φ u vs ∧ vs.length = k * sz ∧ ∀ v ∈ vs, cellsOk v = true := by
  unfold elemsN at he
  split at he
  · cases he; cases hl
    unfold VR at hv; subst hv
    have : k = 0 := by omega
    subst this
    exact ⟨[], fun _ => rfl, rfl, by unfold TR; exact ⟨rfl, by decide⟩, by simp, by simp⟩
  · rename_i a o n cap
    cases hl
    split at he
    · rename_i t s c hg
      cases hb : Nat.ble (o + k * sz) (T.size c) with
      | false => rw [hb] at he; cases he
      | true =>
        rw [hb] at he; cases he
        have hb := Nat.le_of_ble_eq_true hb
        obtain ⟨B, ha, y, c', rfl, h1, h2, _⟩ := hv.sl
        obtain ⟨ys, q1, q2, q3, q4⟩ := hs.cells hg ha hb
        refine ⟨ys, fun _ => rfl, ?_, q3, q1, q4⟩
        simp only [Builtin.firstCells]
        rcases h2 with rfl | rfl
        · rw [← q1]
          exact run_loadCells_list w _ ys fun j v hv => by rw [add_mul_addr]; exact q2 j v hv
        · have hm : k = 0 := by omega
          subst hm
          have : ys = [] := List.eq_nil_of_length_eq_zero (by simpa using q1)
          subst this
          simp [Go.loadCells, Go.loadCellsFrom]
    · cases he
  · rename_i n x
    cases hl
    cases hb : Nat.beq sz 1 with
    | false => rw [hb] at he; cases he
    | true =>
      rw [hb] at he; cases he
      have hb := Nat.eq_of_beq_eq_true hb
      subst hb
      obtain ⟨rfl, hx⟩ := hv.s
      refine ⟨(bytesOf k (x / 256 ^ (m - k))).map cellB, fun _ => by simp [Builtin.lenOf], ?_, ?_, by simp, fun v hv => ?_⟩
      · simp only [Builtin.firstCells]
        have e1 := strOf_extract (n := m) (s := x) (l := 0) (u := k) (Nat.zero_le _) hk
        rw [Nat.sub_zero] at e1
        rw [e1, strOf_cells, bytesOf_mod _ _ _ (Nat.le_refl _)]; rfl
      · unfold TR
        refine ⟨rfl, ?_⟩
        rw [Nat.div_lt_iff_lt_mul (Nat.pow_pos (by decide)), ← Nat.pow_add, show k + (m - k) = m by omega]
        exact hx
      · obtain ⟨c, _, rfl⟩ := List.mem_map.1 hv; rfl
  · cases he
def copyV (sz : Nat) (x y : V) (h : Hp) : Ox := match lenV y with
  | none => .no 90
  | some m => match x with
    | .ns => match elemsN sz h y 0 with
      | some _ => .val (.i .i64 (.ofNat 0)) h
      | none => .no 91
    | .sl a o n _ => match elemsN sz h y (min m n) with
      | some u => ite' (Nat.beq n 0) (.val (.i .i64 (.ofNat 0)) h) (match PT.get a h.mem with
        | some (.row t s c) => ite' (Nat.ble (o + T.size u) (T.size c)) (.val (.i .i64 (.ofNat (min m n))) ⟨h.next, PT.set a (some (.row t s (T.put c o u))) h.mem⟩) (.no 92)
        | _ => .no 93)
      | none => .no 94
    | _ => .no 95
theorem copyV_ok {t t2 e ty : TypeId} {sz by_ : Nat} {z : Value} {x y : V} {xv yv : Value} (hs : Sm W0 φ h w) (hx : VR φ x xv) (hy : VR φ y yv) (hu : P.underlying t = some (.slice e)) (hi : Inf P e sz by_ z) (hsz : 0 < sz) : RunOK P W0 φ h w (Builtin.copy_ #[t, t2] ty #[xv, yv]) (copyV sz x y h) := by
  have hsz' : ∀ w, (sizeOf e).run P w = .ok sz w := fun w => hi.run_size
  unfold copyV
  split
  · trivial
  · rename_i m hm
    split
    · unfold VR at hx; subst hx
      split
      · rename_i u he
        obtain ⟨vs, q1, q2, q3, q4, q5⟩ := elemsN_run (P := P) (k := 0) hs hm (Nat.zero_le _) he hy
        refine ⟨φ, _, w, ?_, St.refl _ _, hs, VR.i' _ _ _⟩
        simp [Builtin.copy_, run_underlying hu, q1, hsz', q2, goInt]
      · trivial
    · rename_i a o n cap
      split
      · rename_i u he
        obtain ⟨vs, q1, q2, q3, q4, q5⟩ := elemsN_run (P := P) hs hm (Nat.min_le_left m n) he hy
        obtain ⟨B, ha, p, c', rfl, g1, g2, _⟩ := hx.sl
        refine ite_cases (Q := RunOK P W0 φ h w _) (fun hb => ?_) (fun hb => ?_)
        · have hb := Nat.eq_of_beq_eq_true hb
          subst hb
          have e0 : Nat.min m 0 = 0 := Nat.min_zero m
          have e1 : vs = [] := List.eq_nil_of_length_eq_zero (by rw [q4, show min m 0 = 0 from e0]; simp)
          subst e1
          rw [show min m 0 = 0 from e0] at q2
          refine ⟨φ, _, w, ?_, St.refl _ _, hs, VR.i' _ _ _⟩
          simp [Builtin.copy_, run_underlying hu, q1, hsz', e0, q2, goInt, storeCells]
        · have hn : n ≠ 0 := fun e => by subst e; cases hb
          obtain rfl : p = ⟨B.b, B.base + o, none⟩ := by rcases g2 with g2 | g2 <;> first | exact g2 | omega
          split
          · rename_i t' s' c hg
            refine ite_cases (Q := RunOK P W0 φ h w _) (fun hb => ?_) (fun _ => trivial)
            have hb := Nat.le_of_ble_eq_true hb
            obtain ⟨w', r1, r2, r3⟩ := hs.store (P := P) hg ha q3 q5 hb
            refine ⟨φ, _, w', ?_, r3, r2, VR.i' _ _ _⟩
            have q2' : (Builtin.firstCells sz (Nat.min m n) yv).run P w = .ok vs.toArray w := q2
            simp [Builtin.copy_, run_underlying hu, q1, hsz', q2', r1, goInt]
          · trivial
      · trivial
    · trivial
def clearV (sz : Nat) (zt : T V) (x : V) (h : Hp) : Ox := match x with
  | .ns => .val (.tu []) h
  | .sl a o n _ => ite' (Nat.beq n 0) (.val (.tu []) h) (match PT.get a h.mem with
    | some (.row t s c) => ite' (Nat.ble (o + T.size (repT n zt)) (T.size c)) (.val (.tu []) ⟨h.next, PT.set a (some (.row t s (T.put c o (repT n zt)))) h.mem⟩) (.no 96)
    | _ => .no 97)
  | _ => .no 98
theorem VR.tu0 (φ : Phi) : VR φ (.tu []) (.tuple #[]) := by unfold VR; exact ⟨_, rfl, by unfold LR; rfl⟩
theorem clearV_ok {t e ty : TypeId} {sz by_ : Nat} {z : Value} {zt : T V} {x : V} {xv : Value} (hs : Sm W0 φ h w) (hx : VR φ x xv) (hu : P.underlying t = some (.slice e)) (hi : Inf P e sz by_ z) (hz : z.cells.size = sz) (hsz : 0 < sz) (hzt : Zero z zt) : RunOK P W0 φ h w (Builtin.clear_ #[t] ty #[xv]) (clearV sz zt x h) := by
  have hz' : ∀ w, (zeroValue e).run P w = .ok z w := fun w => hi.run_zero
  unfold clearV
  split
  · unfold VR at hx; subst hx
    exact ⟨φ, _, w, by simp [Builtin.clear_, run_underlying hu], St.refl _ _, hs, VR.tu0 _⟩
  · rename_i a o n cap
    obtain ⟨B, ha, p, c', rfl, g1, g2, _⟩ := hx.sl
    refine ite_cases (Q := RunOK P W0 φ h w _) (fun hb => ?_) (fun hb => ?_)
    · have hb := Nat.eq_of_beq_eq_true hb
      subst hb
      exact ⟨φ, _, w, by simp [Builtin.clear_, run_underlying hu], St.refl _ _, hs, VR.tu0 _⟩
    · have hn : n ≠ 0 := fun e => by subst e; cases hb
      obtain rfl : p = ⟨B.b, B.base + o, none⟩ := by rcases g2 with g2 | g2 <;> first | exact g2 | omega
      split
      · rename_i t' s' c hg
        refine ite_cases (Q := RunOK P W0 φ h w _) (fun hb => ?_) (fun _ => trivial)
        have hb := Nat.le_of_ble_eq_true hb
        obtain ⟨w', r1, r2, r3⟩ := hs.store (P := P) hg ha (repT_ok (hzt.rel φ) n) (reps_ok hzt.ok n) hb
        refine ⟨φ, _, w', ?_, r3, r2, VR.tu0 _⟩
        have hzc : (Builtin.zeroCells z.cells n).toList = reps n z.cells.toList := by
          rw [← zeroRow_reps hz hsz]
          simp [Builtin.zeroCells, zeroRow, hz]
        obtain ⟨n', rfl⟩ : ∃ n', n = n' + 1 := ⟨n - 1, by omega⟩
        simp [Builtin.clear_, run_underlying hu, hz', hzc, r1]
      · trivial
  · trivial

/-! ### Maps -/
def keyEq (z : Int) (k : Int) : Bool := Int.rec (fun m => Int.rec (fun n => Nat.beq m n) (fun _ => false) k) (fun m => Int.rec (fun _ => false) (fun n => Nat.beq m n) k) z
theorem keyEq_iff (z k : Int) : keyEq z k = true ↔ z = k := by
  cases z <;> cases k
  · exact ⟨fun h => by rw [Nat.eq_of_beq_eq_true h], fun h => by cases h; exact Nat.beq_refl _⟩
  · exact ⟨fun h => (by cases h), fun h => (by cases h)⟩
  · exact ⟨fun h => (by cases h), fun h => (by cases h)⟩
  · exact ⟨fun h => by rw [Nat.eq_of_beq_eq_true h], fun h => by cases h; exact Nat.beq_refl _⟩
def vget (k : Int) : List (Int × V × Nat) → Option V
  | [] => none
  | e :: es => ite' (keyEq k e.1) (some e.2.1) (vget k es)
def vput (k : Int) (v : V) (ck : Nat) : List (Int × V × Nat) → List (Int × V × Nat) × Nat
  | [] => ([(k, v, ck)], ck + 1)
  | e :: es => ite' (keyEq k e.1) ((k, v, e.2.2) :: es, ck) (match vput k v ck es with | (l, c) => (e :: l, c))
theorem vget_ok {k : Int} : ∀ {es : List (Int × V × Nat)} {l : Ent}, entR φ es l → (vget k es = none ∧ mget l k = none) ∨ ∃ v y, vget k es = some v ∧ mget l k = some y ∧ VR φ v y
  | [], l, h => by
    have h : l = [] := h
    subst h; exact .inl ⟨rfl, rfl⟩
  | (k1, v, n) :: es, l, h => by
    obtain ⟨y, ys, rfl, h1, h2⟩ := h
    rw [mget_cons]
    show (ite' (keyEq k k1) (some v) (vget k es) = none ∧ _) ∨ ∃ v' y', ite' (keyEq k k1) (some v) (vget k es) = some v' ∧ _
    cases hk : keyEq k k1 with
    | true => rw [if_pos ((keyEq_iff _ _).1 hk)]; exact .inr ⟨v, y, rfl, rfl, h1⟩
    | false =>
      rw [if_neg (fun e => by rw [(keyEq_iff _ _).2 e] at hk; cases hk)]
      exact vget_ok h2
theorem mput_cons (e : Int × Value × Nat) (es : Ent) (ck : Nat) (k : Int) (v : Value) : mput (e :: es) ck k v = if k = e.1 then ((k, v, e.2.2) :: es, ck) else (e :: (mput es ck k v).1, (mput es ck k v).2) := by
  unfold mput
  simp only [mfind]
  by_cases h : k = e.1
  · rw [if_pos h, if_pos h]; rfl
  · rw [if_neg h, if_neg h]
    have hsh : ∀ (es : Ent) (i : Nat), mfind k es (i + 1) = (mfind k es i).map (fun p => (p.1 + 1, p.2)) := by
      intro es
      induction es with
      | nil => intro i; rfl
      | cons e es ih =>
        intro i
        simp only [mfind]
        by_cases h : k = e.1
        · rw [if_pos h, if_pos h]; rfl
        · rw [if_neg h, if_neg h]; exact ih _
    rw [hsh]
    cases mfind k es 0 with
    | none => rfl
    | some p => rfl
theorem vput_ok {k : Int} {v : V} {y : Value} {ck : Nat} (hv : VR φ v y) : ∀ {es : List (Int × V × Nat)} {l : Ent}, entR φ es l → entR φ (vput k v ck es).1 (mput l ck k y).1 ∧ (vput k v ck es).2 = (mput l ck k y).2
  | [], l, h => by
    have h : l = [] := h
    subst h; exact ⟨⟨y, [], rfl, hv, rfl⟩, rfl⟩
  | (k1, v1, n) :: es, l, h => by
    obtain ⟨y1, ys, rfl, h1, h2⟩ := h
    rw [mput_cons]
    obtain ⟨q1, q2⟩ := vput_ok (ck := ck) hv h2
    show entR φ (ite' (keyEq k k1) ((k, v, n) :: es, ck) (match vput k v ck es with | (l, c) => ((k1, v1, n) :: l, c))).1 _ ∧ (ite' (keyEq k k1) ((k, v, n) :: es, ck) (match vput k v ck es with | (l, c) => ((k1, v1, n) :: l, c))).2 = _
    cases hk : keyEq k k1 with
    | true => rw [if_pos ((keyEq_iff _ _).1 hk)]; exact ⟨⟨y, ys, rfl, hv, h2⟩, rfl⟩
    | false =>
      rw [if_neg (fun e => by rw [(keyEq_iff _ _).2 e] at hk; cases hk)]
      exact ⟨⟨y1, _, rfl, h1, q1⟩, q2⟩
def newM (kd : IntKind) (h : Hp) : Ox := .val (.m h.next) ⟨h.next.succ, PT.set h.next (some (.mp kd [] 0)) h.mem⟩
theorem newM_ok {t : TypeId} {kd : IntKind} (hs : Sm W0 φ h w) : RunOK P W0 φ h w (Instr.makeMap t none) (newM kd h) := by
  obtain ⟨k1, k2⟩ := hs.alloc (.map #[] 0) (k := 0) (s := 0) (o := .mp kd [] 0) ⟨[], rfl, by show (w.heap.push _)[w.heap.size]? = _; simp⟩
  exact ⟨_, .map (some w.heap.size), _, by simp [Instr.makeMap], k2, k1, by unfold VR; exact ⟨_, named_same _ _ _, rfl⟩⟩
def findM (kd : IntKind) (ok : Bool) (zv : V) (x y : V) (h : Hp) : Ox := elM x (.no 110) fun a => elI y (.no 111) fun k z => match PT.get a h.mem with
  | some (.mp k' es _) => ite' (Bool.and (Nat.beq (kn k) (kn kd)) (Nat.beq (kn k') (kn kd))) (match vget z es with
    | some v => .val (ite' ok (.tu [v, .b true]) v) h
    | none => .val (ite' ok (.tu [zv, .b false]) zv) h) (.no 112)
  | _ => .no 113
theorem VR.tu2 {v v2 : V} {y z : Value} (h1 : VR φ v y) (h2 : VR φ v2 z) : VR φ (.tu [v, v2]) (.tuple #[y, z]) := by
  unfold VR
  exact ⟨_, rfl, by unfold LR; exact ⟨y, [z], rfl, h1, by unfold LR; exact ⟨z, [], rfl, h2, by unfold LR; rfl⟩⟩⟩
theorem findM_ok {t kt et : TypeId} {kd : IntKind} {ok : Bool} {sz by_ : Nat} {z : Value} {x y : V} {xv yv : Value} (hs : Sm W0 φ h w) (hx : VR φ x xv) (hy : VR φ y yv) (hu : P.underlying t = some (.map kt et)) (hk : P.underlying kt = some (.int kd)) (hi : Inf P et sz by_ z) :
    RunOK P W0 φ h w (Instr.lookup t xv yv ok) (findM kd ok (ofV z) x y h) := by
  cases x <;> try trivial
  rename_i a
  cases y <;> try trivial
  rename_i k n
  have := hy.i
  subst this
  show RunOK P W0 φ h w _ (match PT.get a h.mem with
    | some (.mp k' es _) => ite' (Bool.and (Nat.beq (kn k) (kn kd)) (Nat.beq (kn k') (kn kd))) (match vget n es with
      | some v => .val (ite' ok (.tu [v, .b true]) v) h
      | none => .val (ite' ok (.tu [ofV z, .b false]) (ofV z)) h) (.no 112)
    | _ => .no 113)
  split
  · rename_i k' es ck hg
    refine ite_cases (Q := RunOK P W0 φ h w _) (fun hb => ?_) (fun _ => trivial)
    simp only [Bool.and_eq_true] at hb
    obtain rfl := kn_inj hb.1
    obtain rfl := kn_inj hb.2
    unfold VR at hx
    obtain ⟨B, ha, rfl⟩ := hx
    obtain ⟨es', e1, e2⟩ := (hs.own _ _ _ hg ha).2
    have hrun := run_lookup_int (P := P) (w := w) (k0 := n) hu hk hi e2 ok
    rcases vget_ok (k := n) e1 with ⟨q1, q2⟩ | ⟨v, yv, q1, q2, q3⟩
    · rw [q1]
      rw [q2] at hrun
      cases ok with
      | true => exact ⟨φ, _, w, hrun, St.refl _ _, hs, VR.tu2 (ofV_ok φ z) (VR.b' _ _)⟩
      | false => exact ⟨φ, _, w, hrun, St.refl _ _, hs, ofV_ok φ z⟩
    · rw [q1]
      rw [q2] at hrun
      cases ok with
      | true => exact ⟨φ, _, w, hrun, St.refl _ _, hs, VR.tu2 q3 (VR.b' _ _)⟩
      | false => exact ⟨φ, _, w, hrun, St.refl _ _, hs, q3⟩
  · trivial
def setM (kd : IntKind) (x y v : V) (h : Hp) : Ox := elM x (.no 114) fun a => elI y (.no 115) fun k z => match PT.get a h.mem with
  | some (.mp k' es ck) => ite' (Bool.and (Nat.beq (kn k) (kn kd)) (Nat.beq (kn k') (kn kd))) (match vput z v ck es with
    | (es', ck') => .skip ⟨h.next, PT.set a (some (.mp k' es' ck')) h.mem⟩) (.no 116)
  | _ => .no 117
theorem setM_ok {t kt et : TypeId} {kd : IntKind} {x y v : V} {xv yv vv : Value} (hs : Sm W0 φ h w) (hx : VR φ x xv) (hy : VR φ y yv) (hv : VR φ v vv) (hu : P.underlying t = some (.map kt et)) (hk : P.underlying kt = some (.int kd)) :
    OpRun P W0 φ h w (do Instr.mapUpdate t xv yv vv; pure .skip) (setM kd x y v h) := by
  cases x <;> try trivial
  rename_i a
  cases y <;> try trivial
  rename_i k n
  have := hy.i
  subst this
  show OpRun P W0 φ h w _ (match PT.get a h.mem with
    | some (.mp k' es ck) => ite' (Bool.and (Nat.beq (kn k) (kn kd)) (Nat.beq (kn k') (kn kd))) (match vput n v ck es with
      | (es', ck') => .skip ⟨h.next, PT.set a (some (.mp k' es' ck')) h.mem⟩) (.no 116)
    | _ => .no 117)
  split
  · rename_i k' es ck hg
    refine ite_cases (Q := OpRun P W0 φ h w _) (fun hb => ?_) (fun _ => trivial)
    simp only [Bool.and_eq_true] at hb
    obtain rfl := kn_inj hb.1
    obtain rfl := kn_inj hb.2
    unfold VR at hx
    obtain ⟨B, ha, rfl⟩ := hx
    obtain ⟨es', e1, e2⟩ := (hs.own _ _ _ hg ha).2
    have hrun := run_mapUpdate_int (P := P) (w := w) (k0 := n) (v := vv) hu hk e2
    obtain ⟨q1, q2⟩ := vput_ok (k := n) (ck := ck) hv e1
    have hlt := (hs.own _ _ _ hg ha).2.lt
    have hB := (hs.own _ _ _ hg ha).1
    obtain ⟨k1, k2⟩ := hs.change (w' := { w with heap := w.heap.setIfInBounds B.b (.map ((mput es' ck n vv).1.map (entV k')).toArray (mput es' ck n vv).2) }) (o' := .mp k' (vput n v ck es).1 (vput n v ck es).2) hg ha
      (hs.below.trans ⟨rfl, rfl, rfl, by simp, fun j hj => by show (w.heap.setIfInBounds _ _)[j]? = _; rw [Array.getElem?_setIfInBounds_ne (by omega)]⟩)
      (fun i _ hne => by show (w.heap.setIfInBounds _ _)[i]? = _; rw [Array.getElem?_setIfInBounds_ne (Ne.symm hne)])
      ⟨_, q1, by show (w.heap.setIfInBounds _ _)[B.b]? = _; rw [q2]; simp [hlt]⟩
    exact ⟨φ, _, by simp [hrun], k2, k1⟩
  · trivial
end
end
end Go.Ev
/-
  Division, shifts, floats, signs, the least and the greatest, tuples, functions, interfaces, structs. No program in sight.
-/
namespace Go.Ev
open Go Go.SL Go.RowKit
noncomputable section
section
variable {P : Program} {W0 w : World} {φ : Phi} {h : Hp}

/-! ### Division, shifts -/
def divF (rem : Bool) (x y : V) (h : Hp) : Ox := elI x (.no 120) fun k z => elI y (.no 121) fun k' z' => ite' (Nat.beq (kn k) (kn k'))
  (Int.rec (fun a => Int.rec (fun b => ite' (Nat.beq b 0) (.no 122) (.val (ite' rem (.i k (.ofNat (Nat.mod a b))) (wrapV k (Nat.div a b))) h)) (fun _ => .val (ite' rem (.i k (z.tmod z')) (.i k (k.wrap (z.tdiv z')))) h) z')
    (fun _ => Int.rec (fun b => ite' (Nat.beq b 0) (.no 123) (.val (ite' rem (.i k (z.tmod z')) (.i k (k.wrap (z.tdiv z')))) h)) (fun _ => .val (ite' rem (.i k (z.tmod z')) (.i k (k.wrap (z.tdiv z')))) h) z') z) (.no 124)
theorem divF_ok {rem : Bool} {t : TypeId} {x y : V} {xv yv : Value} (hs : Sm W0 φ h w) (hx : VR φ x xv) (hy : VR φ y yv) : RunOK P W0 φ h w (binOp (bif rem then .rem else .quo) t xv yv) (divF rem x y h) := by
  cases x <;> try trivial
  rename_i k z
  cases y <;> try trivial
  rename_i k' z'
  have := hx.i; subst this
  have := hy.i; subst this
  refine ite_cases (Q := RunOK P W0 φ h w _) (fun hb => ?_) (fun _ => trivial)
  have := kn_inj hb
  subst this
  have gen : z' ≠ 0 → RunOK P W0 φ h w (binOp (bif rem then .rem else .quo) t (.int k z) (.int k z')) (.val (ite' rem (.i k (z.tmod z')) (.i k (k.wrap (z.tdiv z')))) h) := fun h0 => by
    cases rem with
    | true => exact ⟨φ, _, w, by simp [binOp, Op.intDiv, h0], St.refl _ _, hs, VR.i' _ _ _⟩
    | false => exact ⟨φ, _, w, by simp [binOp, Op.intDiv, h0], St.refl _ _, hs, VR.i' _ _ _⟩
  cases z with
  | negSucc a =>
    cases z' with
    | negSucc b => exact gen (by simp)
    | ofNat b =>
      refine ite_cases (Q := RunOK P W0 φ h w _) (fun _ => trivial) (fun hc => ?_)
      exact gen (by intro e; have : b = 0 := by simpa using e
                    subst this; cases hc)
  | ofNat a =>
    cases z' with
    | negSucc b => exact gen (by simp)
    | ofNat b =>
      refine ite_cases (Q := RunOK P W0 φ h w _) (fun _ => trivial) (fun hc => ?_)
      have h0 : (Int.ofNat b) ≠ 0 := by
        intro e
        have : b = 0 := by simpa using e
        subst this; cases hc
      have g := gen h0
      have e1 : (Int.ofNat a).tdiv (Int.ofNat b) = ((a / b : Nat) : Int) := rfl
      have e2 : (Int.ofNat a).tmod (Int.ofNat b) = ((a % b : Nat) : Int) := rfl
      rw [e1, e2] at g
      have e3 : ite' rem (V.i k (.ofNat (Nat.mod a b))) (wrapV k (Nat.div a b)) = ite' rem (V.i k ((a % b : Nat) : Int)) (.i k (k.wrap ((a / b : Nat) : Int))) := by
        rw [show Nat.div a b = a / b from rfl, wrapV_eq]; rfl
      rw [e3]; exact g
def bitsN (k : IntKind) : Nat := IntKind.rec 8 16 32 64 8 16 32 64 k
def minN (a b : Nat) : Nat := ite' (Nat.ble a b) a b
theorem minN_eq (a b : Nat) : minN a b = min a b := by
  unfold minN
  cases h : Nat.ble a b with
  | true => have := Nat.le_of_ble_eq_true h; show a = _; omega
  | false => have := ble_false h; show b = _; omega
def shlF (x y : V) (h : Hp) : Ox := elI x (.no 125) fun k z => elN y (.no 126) fun b => .val (Int.rec (fun a => wrapV k (Nat.mul a (Nat.pow 2 (minN b (bitsN k))))) (fun _ => .i k (k.wrap (z * 2 ^ min b k.bits))) z) h
def shrF (x y : V) (h : Hp) : Ox := elI x (.no 127) fun k z => elN y (.no 128) fun b => .val (Int.rec (fun a => .i k (.ofNat (Nat.div a (Nat.pow 2 (minN b (bitsN k)))))) (fun _ => .i k (z.fdiv (2 ^ min b k.bits))) z) h
theorem bitsN_eq (k : IntKind) : bitsN k = k.bits := by cases k <;> rfl
theorem shlF_ok {t : TypeId} {x y : V} {xv yv : Value} (hs : Sm W0 φ h w) (hx : VR φ x xv) (hy : VR φ y yv) : RunOK P W0 φ h w (binOp .shl t xv yv) (shlF x y h) := by
  cases x <;> try trivial
  rename_i k z
  have := hx.i; subst this
  refine elN_cases (Q := RunOK P W0 φ h w _) (d := .no 126) (k := fun b => .val (Int.rec (fun a => wrapV k (Nat.mul a (Nat.pow 2 (minN b (bitsN k))))) (fun _ => .i k (k.wrap (z * 2 ^ min b k.bits))) z) h) hy trivial fun kd b hb => ?_
  subst hb
  have hnn : ¬ ((b : Int) < 0) := by omega
  refine ⟨φ, .int k (k.wrap (z * 2 ^ min b k.bits)), w, by simp [binOp, Op.shift, hnn], St.refl _ _, hs, ?_⟩
  cases z with
  | negSucc a => exact VR.i' _ _ _
  | ofNat a =>
    show VR φ (wrapV k (a * 2 ^ minN b (bitsN k))) _
    rw [wrapV_eq, minN_eq, bitsN_eq]
    have : ((a * 2 ^ min b k.bits : Nat) : Int) = Int.ofNat a * 2 ^ min b k.bits := by rw [Int.natCast_mul, Int.natCast_pow]; rfl
    rw [this]; exact VR.i' _ _ _
theorem shrF_ok {t : TypeId} {x y : V} {xv yv : Value} (hs : Sm W0 φ h w) (hx : VR φ x xv) (hy : VR φ y yv) : RunOK P W0 φ h w (binOp .shr t xv yv) (shrF x y h) := by
  cases x <;> try trivial
  rename_i k z
  have := hx.i; subst this
  refine elN_cases (Q := RunOK P W0 φ h w _) (d := .no 128) (k := fun b => .val (Int.rec (fun a => .i k (.ofNat (Nat.div a (Nat.pow 2 (minN b (bitsN k)))))) (fun _ => .i k (z.fdiv (2 ^ min b k.bits))) z) h) hy trivial fun kd b hb => ?_
  subst hb
  have hnn : ¬ ((b : Int) < 0) := by omega
  refine ⟨φ, .int k (z.fdiv (2 ^ min b k.bits)), w, by simp [binOp, Op.shift, hnn], St.refl _ _, hs, ?_⟩
  cases z with
  | negSucc a => exact VR.i' _ _ _
  | ofNat a =>
    show VR φ (.i k (((a / 2 ^ minN b (bitsN k) : Nat)) : Int)) _
    rw [minN_eq, bitsN_eq]
    have : ((a / 2 ^ min b k.bits : Nat) : Int) = (Int.ofNat a).fdiv (2 ^ min b k.bits) := by
      have e : ((2 : Int) ^ min b k.bits) = ((2 ^ min b k.bits : Nat) : Int) := by rw [Int.natCast_pow]; rfl
      rw [e]
      show _ = (a : Int).fdiv _
      rw [Int.fdiv_eq_ediv_of_nonneg _ (Int.natCast_nonneg _)]
      rfl
    rw [this]; exact VR.i' _ _ _

/-! ### Floats -/
def cmpF2 (op : BinOp) (a b : Nat) (h : Hp) : Ox := match op with
  | .eql => .val (.b (FloatKind.f64.format.order a b == some .eq)) h
  | .neq => .val (.b (FloatKind.f64.format.order a b != some .eq)) h
  | .lss => .val (.b (FloatKind.f64.format.order a b == some .lt)) h
  | .leq => .val (.b (FloatKind.f64.format.order a b == some .lt || FloatKind.f64.format.order a b == some .eq)) h
  | .gtr => .val (.b (FloatKind.f64.format.order a b == some .gt)) h
  | .geq => .val (.b (FloatKind.f64.format.order a b == some .gt || FloatKind.f64.format.order a b == some .eq)) h
  | .add => match FloatKind.f64.format.add a b with
    | some r => .val (.f r) h
    | none => .no 131
  | _ => .no 132
def cmpFl (op : BinOp) (x y : V) (h : Hp) : Ox := elF x (.no 129) fun a => elF y (.no 130) fun b => cmpF2 op a b h
theorem VR.f {n : Nat} {v : Value} (hv : VR φ (.f n) v) : v = .float .f64 n := by unfold VR at hv; exact hv
theorem cmpFl_ok {op : BinOp} {t : TypeId} {xo yo : Operand} {x y : V} {xv yv : Value} (hs : Sm W0 φ h w) (hx : VR φ x xv) (hy : VR φ y yv) : RunOK P W0 φ h w (do eqGuard op t xo yo xv yv; binOp op t xv yv) (cmpFl op x y h) := by
  cases x <;> try trivial
  rename_i a
  cases y <;> try trivial
  rename_i b
  have := hx.f; subst this
  have := hy.f; subst this
  have hg : ∀ w, (eqGuard op t xo yo (.float .f64 a) (.float .f64 b)).run P w = .ok () w := fun w => eqGuard_plain (by simp) (by simp) w
  show RunOK P W0 φ h w _ (cmpF2 op a b h)
  cases op <;> try trivial
  case add =>
    unfold cmpF2
    simp only
    split
    · rename_i r hr
      exact ⟨φ, _, w, by simp [hg, binOp, Op.floatArith, hr], St.refl _ _, hs, VR.f' _ _⟩
    · trivial
  all_goals exact ⟨φ, _, w, by simp [hg, binOp, Op.floatCmp], St.refl _ _, hs, VR.b' _ _⟩

/-! ### Signs, choices -/
def notV (x : V) (h : Hp) : Ox := elB x (.no 133) fun b => .val (.b (not b)) h
theorem notV_ok {x : V} {xv : Value} (hs : Sm W0 φ h w) (hx : VR φ x xv) : RunOK P W0 φ h w (Op.unary .not xv) (notV x h) := by
  cases x <;> try trivial
  have := hx.b; subst this
  exact ⟨φ, _, w, by simp [Op.unary], St.refl _ _, hs, VR.b' _ _⟩
def negV (x : V) (h : Hp) : Ox := elI x (.no 134) fun k z => .val (.i k (k.wrap (0 - z))) h
theorem negV_ok {x : V} {xv : Value} (hs : Sm W0 φ h w) (hx : VR φ x xv) : RunOK P W0 φ h w (Op.unary .neg xv) (negV x h) := by
  cases x <;> try trivial
  have := hx.i; subst this
  exact ⟨φ, _, w, by simp [Op.unary, Op.intArith], St.refl _ _, hs, VR.i' _ _ _⟩
def comV (x : V) (h : Hp) : Ox := elI x (.no 135) fun k z => .val (.i k (k.wrap (BitVec.ofInt k.bits (if k.signed then -1 else k.max) ^^^ BitVec.ofInt k.bits z).toNat)) h
theorem comV_ok {x : V} {xv : Value} (hs : Sm W0 φ h w) (hx : VR φ x xv) : RunOK P W0 φ h w (Op.unary .xor xv) (comV x h) := by
  cases x <;> try trivial
  have := hx.i; subst this
  exact ⟨φ, _, w, by simp [Op.unary, Op.intBits], St.refl _ _, hs, VR.i' _ _ _⟩
def ltI (a b : Int) : Bool := Int.rec (fun m => Int.rec (fun n => Nat.ble (Nat.succ m) n) (fun _ => false) b) (fun m => Int.rec (fun _ => true) (fun n => Nat.ble (Nat.succ n) m) b) a
theorem ltI_iff (a b : Int) : ltI a b = decide (a < b) := by
  cases a <;> cases b <;> simp only [ltI, ble_decide] <;> first | (congr 1; apply propext; simp; omega) | (apply Eq.symm; simp; omega)
def mmV (mx : Bool) (x y : V) (h : Hp) : Ox := elI x (.no 136) fun k z => elI y (.no 137) fun _ z' => .val (.i k (ite' (ite' mx (ltI z z') (ltI z' z)) z' z)) h
theorem mmV_ok {mx : Bool} {ts : Array TypeId} {ty : TypeId} {x y : V} {xv yv : Value} (hs : Sm W0 φ h w) (hx : VR φ x xv) (hy : VR φ y yv) : RunOK P W0 φ h w (bif mx then Builtin.max_ ts ty #[xv, yv] else Builtin.min_ ts ty #[xv, yv]) (mmV mx x y h) := by
  cases x <;> try trivial
  rename_i k z
  cases y <;> try trivial
  rename_i k' z'
  have := hx.i; subst this
  have := hy.i; subst this
  cases mx with
  | true =>
    refine ⟨φ, .int k (if z' > z then z' else z), w, by simp [Builtin.max_, Builtin.max2], St.refl _ _, hs, ?_⟩
    show VR φ (.i k (ite' (ltI z z') z' z)) _
    rw [ltI_iff]
    by_cases hc : z < z'
    · rw [if_pos hc, decide_eq_true hc]; exact VR.i' _ _ _
    · rw [if_neg hc, decide_eq_false hc]; exact VR.i' _ _ _
  | false =>
    refine ⟨φ, .int k (if z' < z then z' else z), w, by simp [Builtin.min_, Builtin.min2], St.refl _ _, hs, ?_⟩
    show VR φ (.i k (ite' (ltI z' z) z' z)) _
    rw [ltI_iff]
    by_cases hc : z' < z
    · rw [if_pos hc, decide_eq_true hc]; exact VR.i' _ _ _
    · rw [if_neg hc, decide_eq_false hc]; exact VR.i' _ _ _

/-! ### Tuples, structs -/
def nth (xs : List V) (i : Nat) : Option V := List.rec (motive := fun _ => Nat → Option V) (fun _ => none) (fun x _ ih i => Nat.rec (some x) (fun j _ => ih j) i) xs i
theorem nth_ok : ∀ {xs : List V} {ys : List Value} {i : Nat} {v : V}, LR φ xs ys → nth xs i = some v → ∃ y, ys[i]? = some y ∧ VR φ v y
  | [], ys, i, v, h, hn => by cases hn
  | x :: xs, ys, i, v, h, hn => by
    unfold LR at h
    obtain ⟨y, ys, rfl, h1, h2⟩ := h
    cases i with
    | zero => cases hn; exact ⟨y, rfl, h1⟩
    | succ i => exact nth_ok (i := i) h2 hn
def extrV (i : Nat) (x : V) (h : Hp) : Ox := elTu x (.no 138) fun xs => match nth xs i with
  | some v => .val v h
  | none => .no 139
theorem extrV_ok {i : Nat} {x : V} {xv : Value} (hs : Sm W0 φ h w) (hx : VR φ x xv) : RunOK P W0 φ h w (Instr.extract xv i) (extrV i x h) := by
  cases x <;> try trivial
  rename_i xs
  show RunOK P W0 φ h w _ (match nth xs i with
    | some v => .val v h
    | none => .no 139)
  split
  · rename_i v hn
    unfold VR at hx
    obtain ⟨ys, rfl, h1⟩ := hx
    obtain ⟨y, q1, q2⟩ := nth_ok h1 hn
    have : ys[i]? = some y := by rw [← Array.getElem?_toList]; exact q1
    exact ⟨φ, y, w, by simp [Instr.extract, this], St.refl _ _, hs, q2⟩
  · trivial
def fldV (off : Nat) (x : V) (h : Hp) : Ox := elAg x (.no 140) fun c => ite' (Nat.ble (Nat.succ off) (T.size c)) (.val (T.get c off) h) (.no 141)
theorem fldV_ok {t : TypeId} {i : Nat} {fs : Array Field} {f : Field} {td : TypeDesc} {x : V} {xv : Value} (hs : Sm W0 φ h w) (hx : VR φ x xv) (hu : P.underlying t = some (.struct fs)) (hf : fs[i]? = some f) (huf : P.underlying f.type = some td) (hsc : scalar td = true) : RunOK P W0 φ h w (Instr.field t xv i) (fldV f.offset x h) := by
  cases x <;> try trivial
  rename_i c
  obtain ⟨cs, rfl, h1, _⟩ := hx.ag
  refine ite_cases (Q := RunOK P W0 φ h w _) (fun hb => ?_) (fun _ => trivial)
  have hb : f.offset < T.size c := Nat.le_of_ble_eq_true hb
  rw [TR.size h1] at hb
  obtain ⟨v, q1, q2⟩ := TR.get h1 hb
  have h4 : cs[f.offset]? = some v := by rw [← Array.getElem?_toList]; exact q1
  have h5 : ∀ w, (part f.type cs f.offset).run P w = .ok v w := fun w => by
    have hag : ∀ w, (isAgg f.type).run P w = .ok false w := run_isAgg_no huf hsc
    simp [part, hag, h4]
  exact ⟨φ, v, w, by simp [Instr.field, run_underlying hu, hf, asAgg, h5], St.refl _ _, hs, q2⟩
/-- structs of a long, an int, a text compared -/
def threeB (P : Program) (t : TypeId) : Bool := match P.underlying t with
  | some (.struct fs) => match fs.toList with
    | [f0, f1, f2] => f0.name != "_" && f1.name != "_" && f2.name != "_" && Nat.beq f0.offset 0 && Nat.beq f1.offset 1 && Nat.beq f2.offset 2 &&
      (match P.underlying f0.type, P.underlying f1.type, P.underlying f2.type with | some (.int .i64), some (.int .i64), some .string => true | _, _, _ => false) && !P.stoodInHeld t && !P.eqGuardType P.depth t
    | _ => false
  | _ => false
theorem threeB_ok {t : TypeId} (hb : threeB P t = true) : ThreeF P t := by
  unfold threeB at hb
  split at hb
  · rename_i fs hu
    split at hb
    · rename_i f0 f1 f2 hfs
      simp only [Bool.and_eq_true, bne_iff_ne, ne_eq, Bool.not_eq_true'] at hb
      obtain ⟨⟨⟨⟨⟨⟨⟨⟨h1, h2⟩, h3⟩, h4⟩, h5⟩, h6⟩, h7⟩, h8⟩, h9⟩ := hb
      have hfs' : fs = #[f0, f1, f2] := by apply Array.ext'; simpa using hfs
      subst hfs'
      split at h7
      · rename_i u0 u1 u2
        exact ⟨⟨f0, f1, f2, hu, h1, h2, h3, Nat.eq_of_beq_eq_true h4, Nat.eq_of_beq_eq_true h5, Nat.eq_of_beq_eq_true h6, u0, u1, u2⟩, h8, h9⟩
      · cases h7
    · cases hb
  · cases hb
def eq3 (x y : V) (h : Hp) : Ox := elAg x (.no 142) fun c => elAg y (.no 143) fun d => ite' (Bool.and (Nat.beq (T.size c) 3) (Nat.beq (T.size d) 3))
  (elI (T.get c 0) (.no 144) fun k0 a => elI (T.get d 0) (.no 144) fun k0' a' => elI (T.get c 1) (.no 144) fun k1 b => elI (T.get d 1) (.no 144) fun k1' b' => elS (T.get c 2) (.no 144) fun n s => elS (T.get d 2) (.no 144) fun m r =>
    ite' (Bool.and (Bool.and (Nat.beq (kn k0) 3) (Nat.beq (kn k0') 3)) (Bool.and (Nat.beq (kn k1) 3) (Nat.beq (kn k1') 3))) (.val (.b (Bool.and (keyEq a a') (Bool.and (keyEq b b') (Bool.and (Nat.beq n m) (Nat.beq s r))))) h) (.no 145)) (.no 146)
theorem three_cells {c : T V} {l : List Value} (h : TR φ c l) (hs : T.size c = 3) : ∃ x y z, l = [x, y, z] ∧ VR φ (T.get c 0) x ∧ VR φ (T.get c 1) y ∧ VR φ (T.get c 2) z := by
  rw [TR.size h] at hs
  match l, hs with
  | [x, y, z], _ =>
    obtain ⟨x', h1, h2⟩ := TR.get h (i := 0) (by simp)
    obtain ⟨y', h3, h4⟩ := TR.get h (i := 1) (by simp)
    obtain ⟨z', h5, h6⟩ := TR.get h (i := 2) (by simp)
    simp at h1 h3 h5
    subst h1 h3 h5
    exact ⟨_, _, _, rfl, h2, h4, h6⟩
theorem elI_cases {x : V} {xv : Value} (hx : VR φ x xv) {α : Type} {Q : α → Prop} {d : α} {k : IntKind → Int → α} (hd : Q d) (hk : ∀ kd z, xv = .int kd z → Q (k kd z)) : Q (elI x d k) := by
  cases x <;> try exact hd
  exact hk _ _ hx.i
theorem elS_cases {x : V} {xv : Value} (hx : VR φ x xv) {α : Type} {Q : α → Prop} {d : α} {k : Nat → Nat → α} (hd : Q d) (hk : ∀ n s, xv = .string (strOf n s) → s < 256 ^ n → Q (k n s)) : Q (elS x d k) := by
  cases x <;> try exact hd
  exact hk _ _ hx.s.1 hx.s.2
theorem eq3_ok {t : TypeId} {xo yo : Operand} {x y : V} {xv yv : Value} (hs : Sm W0 φ h w) (hx : VR φ x xv) (hy : VR φ y yv) (ht : ThreeF P t) : RunOK P W0 φ h w (do eqGuard .eql t xo yo xv yv; binOp .eql t xv yv) (eq3 x y h) := by
  cases x <;> try trivial
  rename_i c
  cases y <;> try trivial
  rename_i d
  obtain ⟨cs, rfl, h1, _⟩ := hx.ag
  obtain ⟨ds, rfl, h2, _⟩ := hy.ag
  refine ite_cases (Q := RunOK P W0 φ h w _) (fun hb => ?_) (fun _ => trivial)
  simp only [Bool.and_eq_true] at hb
  obtain ⟨c0, c1, c2, e1, q0, q1, q2⟩ := three_cells h1 (Nat.eq_of_beq_eq_true hb.1)
  obtain ⟨d0, d1, d2, e2, r0, r1, r2⟩ := three_cells h2 (Nat.eq_of_beq_eq_true hb.2)
  have e1 : cs = #[c0, c1, c2] := by apply Array.ext'; simpa using e1
  have e2 : ds = #[d0, d1, d2] := by apply Array.ext'; simpa using e2
  subst e1 e2
  refine elI_cases (Q := RunOK P W0 φ h w _) q0 trivial fun k0 a ha => ?_
  refine elI_cases (Q := RunOK P W0 φ h w _) r0 trivial fun k0' a' ha' => ?_
  refine elI_cases (Q := RunOK P W0 φ h w _) q1 trivial fun k1 b hb1 => ?_
  refine elI_cases (Q := RunOK P W0 φ h w _) r1 trivial fun k1' b' hb1' => ?_
  refine elS_cases (Q := RunOK P W0 φ h w _) q2 trivial fun n s hs1 hs2 => ?_
  refine elS_cases (Q := RunOK P W0 φ h w _) r2 trivial fun m r hr1 hr2 => ?_
  refine ite_cases (Q := RunOK P W0 φ h w _) (fun hk => ?_) (fun _ => trivial)
  simp only [Bool.and_eq_true] at hk
  obtain rfl := kn_inj (k' := .i64) hk.1.1
  obtain rfl := kn_inj (k' := .i64) hk.1.2
  obtain rfl := kn_inj (k' := .i64) hk.2.1
  obtain rfl := kn_inj (k' := .i64) hk.2.2
  subst ha ha' hb1 hb1' hs1 hr1
  have hrun : ∀ w, (Op.equal t (.agg #[.int .i64 a, .int .i64 b, .string (strOf n s)]) (.agg #[.int .i64 a', .int .i64 b', .string (strOf m r)])).run P w = .ok (decide (a = a' ∧ b = b' ∧ strOf n s = strOf m r)) w := fun w => run_eq3 ht a b a' b' _ _
  have hg : ∀ w, (eqGuard .eql t xo yo (.agg #[.int .i64 a, .int .i64 b, .string (strOf n s)]) (.agg #[.int .i64 a', .int .i64 b', .string (strOf m r)])).run P w = .ok () w := fun w => by
    unfold eqGuard
    simp [ht.guard]
  refine ⟨φ, .bool (decide (a = a' ∧ b = b' ∧ strOf n s = strOf m r)), w, by simp [hg, binOp, hrun], St.refl _ _, hs, ?_⟩
  have e : (Bool.and (keyEq a a') (Bool.and (keyEq b b') (Bool.and (Nat.beq n m) (Nat.beq s r)))) = decide (a = a' ∧ b = b' ∧ strOf n s = strOf m r) := by
    rw [Bool.eq_iff_iff]
    simp only [Bool.and_eq_true, decide_eq_true_eq, keyEq_iff, strOf_inj hs2 hr2]
    have : ∀ p q : Nat, Nat.beq p q = true ↔ p = q := fun p q => ⟨Nat.eq_of_beq_eq_true, fun h => by subst h; exact Nat.beq_refl _⟩
    rw [this, this]
  rw [e]; exact VR.b' _ _
end
end
end Go.Ev
/-
  An operation made ready to run: operands, plain operations. No program in sight.
-/
namespace Go.Ev
open Go Go.SL Go.RowKit
noncomputable section
abbrev Hd := Nat → List V → Hp → Ox
structure OpC where
  run : Hd → R → Hp → Ox
/-- what the program's text alone does not tell: functions without a body, zero values told otherwise -/
structure Env where
  ext : Nat → Option (List V → Option V)
  zt : TypeId → Option (T V)
def CallOK (P : Program) (W0 : World) (φ : Phi) (h : Hp) (w : World) (f : Nat) (args : Array Value) : Ox → Prop
  | .val v h' => Calls P f args w fun e w' => ∃ φ' v', e = .returned v' ∧ St φ φ' h h' ∧ Sm W0 φ' h' w' ∧ VR φ' v v'
  | .pan v h' => Calls P f args w fun e w' => ∃ φ' v', e = .panicked [{ v := v', recovered := false }] ∧ St φ φ' h h' ∧ Sm W0 φ' h' w' ∧ VR φ' v v'
  | _ => True
def HdOK (P : Program) (W0 : World) (hd : Hd) : Prop := ∀ f args h φ w argsR, Sm W0 φ h w → LR φ args argsR → CallOK P W0 φ h w f argsR.toArray (hd f args h)
structure EnvOK (P : Program) (env : Env) : Prop where
  ext : ∀ f g, env.ext f = some g → ∀ φ args argsR v, LR φ args argsR → g args = some v → ∃ v', VR φ v v' ∧ ∀ w, (callFunc f argsR.toArray).run P w = .ok (.value v') w
  zt : ∀ t zt s b z, env.zt t = some zt → tyd P t = some (s, b, z) → Zero z zt
def OpOK (P : Program) (W0 : World) (o : Oper) (φ : Phi) (h : Hp) (a : Act) (w : World) : Ox → Prop
  | .val v h' => ∀ next Q, (∀ φ' v' w', St φ φ' h h' → Sm W0 φ' h' w' → VR φ' v v' → next (a.put o.dst v') w') → o.wp P a w next Q
  | .skip h' => ∀ next Q, (∀ φ' w', St φ φ' h h' → Sm W0 φ' h' w' → next (a.put o.dst undef) w') → o.wp P a w next Q
  | .pan v h' => ∀ next Q, (∀ φ' v' w', St φ φ' h h' → Sm W0 φ' h' w' → VR φ' v v' → Q (.panic [{ v := v', recovered := false }]) a w') → o.wp P a w next Q
  | .no _ => True
section
variable {P : Program} {W0 w : World} {φ : Phi} {h : Hp} {o : Oper} {a : Act} {big : Bool} {n : Nat → Bool} {F : R} {env : Env}
theorem OpOK.of {x : Ox} (hx : OpRun P W0 φ h w (execOp a.eval o) x) : OpOK P W0 o φ h a w x := by
  cases x with
  | val v h' => intro next Q k; obtain ⟨φ', v', w', h1, h2, h3, h4⟩ := hx; unfold Oper.wp; rw [h1]; exact k φ' v' w' h2 h3 h4
  | skip h' => intro next Q k; obtain ⟨φ', w', h1, h2, h3⟩ := hx; unfold Oper.wp; rw [h1]; exact k φ' w' h2 h3
  | pan v h' => intro next Q k; obtain ⟨φ', v', w', h1, h2, h3, h4⟩ := hx; unfold Oper.wp; rw [h1]; exact k φ' v' w' h2 h3 h4
  | no c => trivial

/-! ### Operands -/
/-- slots that may be read -/
def RelM (φ : Phi) (big : Bool) (M : Nat → Bool) (F : R) (a : Act) : Prop := ∀ t, M t = true → VR φ ((rdT big t).get F) (a.tmps.getD t undef)
def fullM (n : Nat) (t : Nat) : Bool := Nat.ble (Nat.succ t) n
/-- some slots stand to an activation's -/
structure RelK (φ : Phi) (big : Bool) (n : Nat) (K : Nat → Prop) (F : R) (a : Act) : Prop where
  fit : F.fit big
  le : n ≤ lim big
  size : a.tmps.size = n
  at_ : ∀ t, t < n → K t → VR φ ((rdT big t).get F) (a.tmps.getD t undef)
theorem RelF.toM {φ : Phi} {big : Bool} {n : Nat} {F : R} {a : Act} (h : RelF φ big n F a) : RelM φ big (fullM n) F a := fun t ht => h.at_ t (Nat.le_of_ble_eq_true ht)
theorem RelF.toK {φ : Phi} {big : Bool} {n : Nat} {F : R} {a : Act} (h : RelF φ big n F a) (K : Nat → Prop) : RelK φ big n K F a := ⟨h.fit, h.le, h.size, fun t ht _ => h.at_ t ht⟩
theorem RelK.toF {φ : Phi} {big : Bool} {n : Nat} {K : Nat → Prop} {F : R} {a : Act} (h : RelK φ big n K F a) (hK : ∀ t, t < n → K t) : RelF φ big n F a := ⟨h.fit, h.le, h.size, fun t ht => h.at_ t ht (hK t ht)⟩
theorem RelK.toM {φ : Phi} {big : Bool} {n : Nat} {K : Nat → Prop} {F : R} {a : Act} {M : Nat → Bool} (h : RelK φ big n K F a) (hM : ∀ t, M t = true → t < n ∧ K t) : RelM φ big M F a := fun t ht => h.at_ t (hM t ht).1 (hM t ht).2
theorem RelK.mono {φ φ' : Phi} {big : Bool} {n : Nat} {K : Nat → Prop} {F : R} {a : Act} (h : RelK φ big n K F a) (he : Ext φ φ') : RelK φ' big n K F a := ⟨h.fit, h.le, h.size, fun t ht hk => (h.at_ t ht hk).mono he⟩
theorem RelK.sub {φ : Phi} {big : Bool} {n : Nat} {K K' : Nat → Prop} {F : R} {a : Act} (h : RelK φ big n K F a) (hk : ∀ t, K' t → K t) : RelK φ big n K' F a := ⟨h.fit, h.le, h.size, fun t ht q => h.at_ t ht (hk t q)⟩
theorem RelK.put {φ : Phi} {big : Bool} {n d : Nat} {K : Nat → Prop} {F : R} {a : Act} {v : V} {y : Value} (h : RelK φ big n K F a) (hd : d < n) (hv : VR φ v y) : RelK φ big n (fun t => K t ∨ t = d) ((wrT big d).put v F) (a.put (some d) y) := by
  refine ⟨wr_fit h.fit _ _, h.le, by simp [Act.put, h.size], fun t ht hk => ?_⟩
  rw [rd_wr h.fit (Nat.lt_of_lt_of_le hd h.le) (Nat.lt_of_lt_of_le ht h.le)]
  have hs := h.size
  simp only [Act.put]
  by_cases e : t = d
  · subst e
    rw [if_pos rfl]
    have : (a.tmps.setIfInBounds t y).getD t undef = y := by
      have hlt : t < a.tmps.size := by omega
      simp [Array.getD, hlt]
    rw [this]; exact hv
  · rw [if_neg e]
    have : (a.tmps.setIfInBounds d y).getD t undef = a.tmps.getD t undef := by
      simp only [Array.getD_eq_getD_getElem?]
      rw [Array.getElem?_setIfInBounds_ne (by omega)]
    rw [this]; exact h.at_ t ht (hk.resolve_right e)
def opd (big : Bool) (n : Nat → Bool) (x : Operand) : Rd := match x with
  | .tmp t => ite' (n t) (rdT big t) ⟨fun _ => .u⟩
  | .const v => ⟨fun _ => ofV v⟩
  | .func f => ⟨fun _ => .fn f [] []⟩
  | .global _ => ⟨fun _ => .u⟩
theorem opd_ok (hF : RelM φ big n F a) (x : Operand) : VR φ ((opd big n x).get F) (a.eval x) := by
  cases x with
  | tmp t =>
    show VR φ ((ite' (n t) (rdT big t) ⟨fun _ => .u⟩).get F) _
    cases ht : n t with
    | true => exact hF t ht
    | false => exact VR_u _ _
  | const v => exact ofV_ok φ v
  | func f =>
    show VR φ (.fn f [] []) (.func (.func f) #[] #[])
    unfold VR
    exact ⟨_, _, rfl, by unfold LR; rfl, by unfold LR; rfl⟩
  | global g => exact VR_u _ _
def opds (big : Bool) (n : Nat → Bool) (xs : List Operand) (F : R) : List V := List.rec [] (fun x _ ih => (opd big n x).get F :: ih) xs
theorem opds_ok (hF : RelM φ big n F a) : ∀ xs : List Operand, LR φ (opds big n xs F) (xs.map a.eval)
  | [] => by show LR φ [] []; unfold LR; rfl
  | x :: xs => by
    show LR φ ((opd big n x).get F :: opds big n xs F) (a.eval x :: xs.map a.eval)
    unfold LR
    exact ⟨_, _, rfl, opd_ok hF x, opds_ok hF xs⟩
def PuC (P : Program) (W0 : World) (big : Bool) (n : Nat → Bool) (o : Oper) (c : OpC) : Prop :=
  ∀ hd φ F h a w, RelM φ big n F a → Sm W0 φ h w → OpRun P W0 φ h w (execOp a.eval o) (c.run hd F h)
def noC (k : Nat) : OpC := ⟨fun _ _ _ => .no k⟩
theorem noC_ok (k : Nat) : PuC P W0 big n o (noC k) := fun _ _ _ _ _ _ _ _ => trivial
/-- an operation that is a value's -/
theorem PuC.of {c : OpC} {s : (Operand → Value) → Sem Value} (ho : ∀ ρ, execOp ρ o = (do Pure.pure (.value (← s ρ)))) (hr : ∀ hd φ F h a w, RelM φ big n F a → Sm W0 φ h w → RunOK P W0 φ h w (s a.eval) (c.run hd F h)) : PuC P W0 big n o c :=
  fun hd φ F h a w hF hs => by rw [ho]; exact OpRun.of (hr hd φ F h a w hF hs)

/-! ### The zero value of a type -/
structure TyZ where
  size : Nat
  bytes : Nat
  z : Value
  zt : T V
def tyz (P : Program) (env : Env) (t : TypeId) : Option TyZ := match tyd P t with
  | some (s, b, z) => match env.zt t with
    | some zt => some ⟨s, b, z, zt⟩
    | none => match zeroOf z with
      | some zt => some ⟨s, b, z, zt⟩
      | none => none
  | none => none
theorem tyz_ok (he : EnvOK P env) {t : TypeId} {y : TyZ} (hy : tyz P env t = some y) : Inf P t y.size y.bytes y.z ∧ Zero y.z y.zt := by
  unfold tyz at hy
  split at hy
  · rename_i s b z ht
    split at hy
    · rename_i zt hz; cases hy; exact ⟨tyd_inf ht, he.zt t zt s b z hz ht⟩
    · split at hy
      · rename_i zt hz; cases hy; exact ⟨tyd_inf ht, zeroOf_ok hz⟩
      · cases hy
  · cases hy

/-! ### Loads, stores, places -/
def loadC (P : Program) (t : TypeId) (rx : Rd) : OpC := match P.underlying t with
  | some td => ite' (scalar td) ⟨fun _ F h => load1 (rx.get F) h⟩ (match tyd P t with
    | some (sz, _, _) => ⟨fun _ F h => loadN sz (rx.get F) h⟩
    | none => noC 200)
  | none => noC 201
theorem loadC_ok {t : TypeId} {x : Operand} (ho : o.op = .load t x) : PuC P W0 big n o (loadC P t (opd big n x)) := by
  unfold loadC
  split
  · rename_i td hu
    refine ite_cases (Q := PuC P W0 big n o) (fun hsc => ?_) (fun hsc => ?_)
    · exact PuC.of (s := fun ρ => Instr.loadAt t (ρ x)) (fun ρ => by simp [execOp, ho]) fun hd φ F h a w hF hs => load1_ok hs (opd_ok hF x) hu hsc
    · split
      · rename_i sz b z ht
        exact PuC.of (s := fun ρ => Instr.loadAt t (ρ x)) (fun ρ => by simp [execOp, ho]) fun hd φ F h a w hF hs => loadN_ok hs (opd_ok hF x) hu hsc (tyd_inf ht)
      · exact noC_ok _
  · exact noC_ok _
def storeC (P : Program) (t : TypeId) (rx ry : Rd) : OpC := match tyd P t with
  | some (sz, _, _) => ⟨fun _ F h => storeV sz (rx.get F) (ry.get F) h⟩
  | none => noC 202
theorem storeC_ok {t : TypeId} {x y : Operand} (ho : o.op = .store t x y) : PuC P W0 big n o (storeC P t (opd big n x) (opd big n y)) := by
  unfold storeC
  split
  · rename_i sz b z ht
    intro hd φ F h a w hF hs
    have e : execOp a.eval o = (do Instr.storeAt t (a.eval x) (a.eval y); Pure.pure .skip) := by simp [execOp, ho]
    rw [e]
    exact storeV_ok hs (opd_ok hF x) (opd_ok hF y) (tyd_inf ht)
  · exact noC_ok _
def fieldAC (P : Program) (t : TypeId) (i : Nat) (rx : Rd) : OpC := match P.underlying t with
  | some (.struct fs) => match fs[i]? with
    | some f => match tyd P f.type with
      | some (sz, _, _) => ite' (Nat.beq sz 0) (noC 203) ⟨fun _ F h => fieldA f.offset (rx.get F) h⟩
      | none => noC 204
    | none => noC 205
  | _ => noC 206
theorem fieldAC_ok {t : TypeId} {x : Operand} {i : Nat} (ho : o.op = .fieldAddr t x i) : PuC P W0 big n o (fieldAC P t i (opd big n x)) := by
  unfold fieldAC
  split
  · rename_i fs hu
    split
    · rename_i f hf
      split
      · rename_i sz b z ht
        refine ite_cases (Q := PuC P W0 big n o) (fun _ => noC_ok _) (fun hz => ?_)
        exact PuC.of (s := fun ρ => Instr.fieldAt t (ρ x) i) (fun ρ => by simp [execOp, ho]) fun hd φ F h a w hF hs => fieldA_ok hs (opd_ok hF x) hu hf (tyd_inf ht) hz
      · exact noC_ok _
    · exact noC_ok _
  · exact noC_ok _
def fieldC (P : Program) (t : TypeId) (i : Nat) (rx : Rd) : OpC := match P.underlying t with
  | some (.struct fs) => match fs[i]? with
    | some f => match P.underlying f.type with
      | some td => ite' (scalar td) ⟨fun _ F h => fldV f.offset (rx.get F) h⟩ (noC 207)
      | none => noC 208
    | none => noC 209
  | _ => noC 210
theorem fieldC_ok {t : TypeId} {x : Operand} {i : Nat} (ho : o.op = .field t x i) : PuC P W0 big n o (fieldC P t i (opd big n x)) := by
  unfold fieldC
  split
  · rename_i fs hu
    split
    · rename_i f hf
      split
      · rename_i td huf
        refine ite_cases (Q := PuC P W0 big n o) (fun hsc => ?_) (fun _ => noC_ok _)
        exact PuC.of (s := fun ρ => Instr.field t (ρ x) i) (fun ρ => by simp [execOp, ho]) fun hd φ F h a w hF hs => fldV_ok hs (opd_ok hF x) hu hf huf hsc
      · exact noC_ok _
    · exact noC_ok _
  · exact noC_ok _
def indexAC (P : Program) (t : TypeId) (rx ry : Rd) : OpC := match P.underlying t with
  | some (.slice e) => match tyd P e with
    | some (sz, _, _) => ⟨fun _ F h => idxS sz (rx.get F) (ry.get F) h⟩
    | none => noC 211
  | some (.array k e) => match tyd P e with
    | some (sz, _, _) => ⟨fun _ F h => idxA k sz (rx.get F) (ry.get F) h⟩
    | none => noC 212
  | _ => noC 213
theorem indexAC_ok {t : TypeId} {x y : Operand} (ho : o.op = .indexAddr t x y) : PuC P W0 big n o (indexAC P t (opd big n x) (opd big n y)) := by
  have ho' : ∀ ρ, execOp ρ o = (do Pure.pure (.value (← Instr.indexAt t (ρ x) (ρ y)))) := fun ρ => by simp [execOp, ho]
  unfold indexAC
  split
  · rename_i e hu
    split
    · rename_i sz b z ht
      exact PuC.of (s := fun ρ => Instr.indexAt t (ρ x) (ρ y)) ho' fun hd φ F h a w hF hs => idxS_ok hs (opd_ok hF x) (opd_ok hF y) hu (tyd_inf ht)
    · exact noC_ok _
  · rename_i k e hu
    split
    · rename_i sz b z ht
      exact PuC.of (s := fun ρ => Instr.indexAt t (ρ x) (ρ y)) ho' fun hd φ F h a w hF hs => idxA_ok hs (opd_ok hF x) (opd_ok hF y) hu (tyd_inf ht)
    · exact noC_ok _
  · exact noC_ok _
def indexC (P : Program) (t : TypeId) (rx ry : Rd) : OpC := match P.underlying t with
  | some .string => ⟨fun _ F h => idxT (rx.get F) (ry.get F) h⟩
  | some (.array k e) => match P.underlying e with
    | some td => ite' (scalar td) (match tyd P e with
      | some (sz, _, _) => ⟨fun _ F h => idxG k sz (rx.get F) (ry.get F) h⟩
      | none => noC 214) (noC 215)
    | none => noC 216
  | _ => noC 217
theorem indexC_ok {t : TypeId} {x y : Operand} (ho : o.op = .index t x y) : PuC P W0 big n o (indexC P t (opd big n x) (opd big n y)) := by
  have ho' : ∀ ρ, execOp ρ o = (do Pure.pure (.value (← Instr.index t (ρ x) (ρ y)))) := fun ρ => by simp [execOp, ho]
  unfold indexC
  split
  · rename_i hu
    exact PuC.of (s := fun ρ => Instr.index t (ρ x) (ρ y)) ho' fun hd φ F h a w hF hs => idxT_ok hs (opd_ok hF x) (opd_ok hF y) hu
  · rename_i k e hu
    split
    · rename_i td hue
      refine ite_cases (Q := PuC P W0 big n o) (fun hsc => ?_) (fun _ => noC_ok _)
      split
      · rename_i sz b z ht
        exact PuC.of (s := fun ρ => Instr.index t (ρ x) (ρ y)) ho' fun hd φ F h a w hF hs => idxG_ok hs (opd_ok hF x) (opd_ok hF y) hu hue hsc (tyd_inf ht)
      · exact noC_ok _
    · exact noC_ok _
  · exact noC_ok _
/-- a bound of a cut, read; there is none -/
def bnd (big : Bool) (n : Nat → Bool) (x : Option Operand) (F : R) (k : Option Nat → Ox) : Ox := match x with
  | none => k none
  | some y => elN ((opd big n y).get F) (.no 218) fun m => k (some m)
theorem bnd_ok (hF : RelM φ big n F a) {x : Option Operand} {k : Option Nat → Ox} {Q : Ox → Prop} (h0 : ∀ c, Q (.no c)) (hk : ∀ m, Bnd (x.map a.eval) m → Q (k m)) : Q (bnd big n x F k) := by
  cases x with
  | none => exact hk none Bnd.none'
  | some y => exact elN_cases (Q := Q) (opd_ok hF y) (h0 _) fun kd m hm => hk (some m) (by simp only [Option.map_some]; rw [hm]; exact Bnd.mk' kd m)
def sliceC (P : Program) (big : Bool) (n : Nat → Bool) (t : TypeId) (rx : Rd) (lo hi mx : Option Operand) : OpC := match P.underlying t with
  | some .string => match mx with
    | none => ⟨fun _ F h => bnd big n lo F fun l => bnd big n hi F fun u => cutT (l.getD 0) u (rx.get F) h⟩
    | some _ => noC 219
  | some (.array k e) => match mx, tyd P e with
    | none, some (sz, _, _) => ⟨fun _ F h => bnd big n lo F fun l => bnd big n hi F fun u => cutA' k sz (l.getD 0) u (rx.get F) h⟩
    | _, _ => noC 220
  | some (.slice e) => match tyd P e with
    | some (sz, _, _) => ite' (Bool.and (Nat.ble 1 sz) (Bool.or mx.isNone hi.isSome)) ⟨fun _ F h => bnd big n lo F fun l => bnd big n hi F fun u => bnd big n mx F fun m => cutS sz (l.getD 0) u m (rx.get F) h⟩ (noC 221)
    | none => noC 222
  | _ => noC 223
theorem sliceC_ok {t : TypeId} {x : Operand} {lo hi mx : Option Operand} (ho : o.op = .slice t x lo hi mx) : PuC P W0 big n o (sliceC P big n t (opd big n x) lo hi mx) := by
  have ho' : ∀ ρ, execOp ρ o = (do Pure.pure (.value (← Instr.sliceAt t (ρ x) (lo.map ρ) (hi.map ρ) (mx.map ρ)))) := fun ρ => by simp [execOp, ho]
  unfold sliceC
  split
  · rename_i hu
    split
    · exact PuC.of (s := fun ρ => Instr.sliceAt t (ρ x) (lo.map ρ) (hi.map ρ) (none.map ρ)) ho' fun hd φ F h a w hF hs =>
        bnd_ok hF (Q := RunOK P W0 φ h w _) (fun _ => trivial) fun l hl => bnd_ok hF (Q := RunOK P W0 φ h w _) (fun _ => trivial) fun u hu' => cutT_ok hs (opd_ok hF x) hu hl hu'
    · exact noC_ok _
  · rename_i k e hu
    split
    · rename_i sz b z ht
      exact PuC.of (s := fun ρ => Instr.sliceAt t (ρ x) (lo.map ρ) (hi.map ρ) (none.map ρ)) ho' fun hd φ F h a w hF hs =>
        bnd_ok hF (Q := RunOK P W0 φ h w _) (fun _ => trivial) fun l hl => bnd_ok hF (Q := RunOK P W0 φ h w _) (fun _ => trivial) fun u hu' => cutA_ok hs (opd_ok hF x) hu (tyd_inf ht) hl hu'
    · exact noC_ok _
  · rename_i e hu
    split
    · rename_i sz b z ht
      refine ite_cases (Q := PuC P W0 big n o) (fun hb => ?_) (fun _ => noC_ok _)
      simp only [Bool.and_eq_true, Bool.or_eq_true] at hb
      have hsz := Nat.le_of_ble_eq_true hb.1
      exact PuC.of (s := fun ρ => Instr.sliceAt t (ρ x) (lo.map ρ) (hi.map ρ) (mx.map ρ)) ho' fun hd φ F h a w hF hs =>
        bnd_ok hF (Q := RunOK P W0 φ h w _) (fun _ => trivial) fun l hl => bnd_ok hF (Q := RunOK P W0 φ h w _) (fun _ => trivial) fun u hu' => bnd_ok hF (Q := RunOK P W0 φ h w _) (fun _ => trivial) fun m hm => cutS_ok hs (opd_ok hF x) hu (tyd_inf ht) hsz hl hu' hm (by
          rcases hb.2 with h1 | h1
          · have : mx = none := by simpa using h1
            subst this
            rcases hm.get with ⟨rfl, _⟩ | ⟨m', _, rfl, hh⟩
            · exact .inl rfl
            · cases hh
          · obtain ⟨y, rfl⟩ := Option.isSome_iff_exists.1 h1
            rcases hu'.get with ⟨rfl, hh⟩ | ⟨k, _, rfl, _⟩
            · cases hh
            · exact .inr ⟨k, rfl⟩)
    · exact noC_ok _
  · exact noC_ok _
end
end
end Go.Ev
/-
  An operation made ready to run: literals, kinds, built-in functions. No program in sight.
-/
namespace Go.Ev
open Go Go.SL Go.RowKit
noncomputable section
section
variable {P : Program} {W0 w : World} {φ : Phi} {h : Hp} {o : Oper} {a : Act} {big : Bool} {n : Nat → Bool} {F : R} {env : Env}
/-! ### New blocks -/
def allocC (P : Program) (env : Env) (t : TypeId) : OpC := match tyz P env t with
  | some y => ⟨fun _ _ h => newP t 1 y.zt h⟩
  | none => noC 230
theorem allocC_ok (he : EnvOK P env) {t : TypeId} (ho : o.op = .alloc t) : PuC P W0 big n o (allocC P env t) := by
  unfold allocC
  split
  · rename_i y hy
    obtain ⟨h1, h2⟩ := tyz_ok he hy
    exact PuC.of (s := fun _ => Instr.alloc t true (.tuple #[])) (fun ρ => by simp [execOp, ho]) fun hd φ F h a w hF hs => allocV_ok hs h1 h2 1
  · exact noC_ok _
def boxC (t : TypeId) (rx : Rd) : OpC := ⟨fun _ F h => boxV t (rx.get F) h⟩
theorem boxC_ok {t : TypeId} {x : Operand} (ho : o.op = .box t x) : PuC P W0 big n o (boxC t (opd big n x)) :=
  PuC.of (s := fun ρ => Instr.box t (ρ x)) (fun ρ => by simp [execOp, ho]) fun hd φ F h a w hF hs => boxV_ok hs (opd_ok hF x)
def makeC (P : Program) (env : Env) (t : TypeId) (rx ry : Rd) : OpC := match P.underlying t with
  | some (.slice e) => match tyz P env e with
    | some y => ite' (Bool.and (Nat.ble 1 y.size) (Nat.beq y.z.cells.size y.size)) ⟨fun _ F h => makeV e y.size y.bytes y.zt (rx.get F) (ry.get F) h⟩ (noC 231)
    | none => noC 232
  | _ => noC 233
theorem makeC_ok (he : EnvOK P env) {t : TypeId} {x y : Operand} (ho : o.op = .makeSlice t x y) : PuC P W0 big n o (makeC P env t (opd big n x) (opd big n y)) := by
  unfold makeC
  split
  · rename_i e hu
    split
    · rename_i yz hy
      obtain ⟨h1, h2⟩ := tyz_ok he hy
      refine ite_cases (Q := PuC P W0 big n o) (fun hb => ?_) (fun _ => noC_ok _)
      simp only [Bool.and_eq_true] at hb
      exact PuC.of (s := fun ρ => Instr.makeSlice t (ρ x) (ρ y)) (fun ρ => by simp [execOp, ho]) fun hd φ F h a w hF hs =>
        makeV_ok hs (opd_ok hF x) (opd_ok hF y) hu h1 (Nat.eq_of_beq_eq_true hb.2) (Nat.le_of_ble_eq_true hb.1) h2
    · exact noC_ok _
  · exact noC_ok _
def parts (big : Bool) (n : Nat → Bool) (ps : List (Nat × Operand)) (F : R) : List (Nat × V) := List.rec [] (fun p _ ih => (p.1, (opd big n p.2).get F) :: ih) ps
theorem parts_ok (hF : RelM φ big n F a) : ∀ ps : List (Nat × Operand), PR φ (parts big n ps F) (ps.map fun p => (p.1, a.eval p.2))
  | [] => rfl
  | p :: ps => ⟨_, _, rfl, opd_ok hF p.2, parts_ok hF ps⟩
/-- a struct's fields: where each stands, how many cells it has -/
def places (P : Program) (fs : List Field) : Option (List (Nat × Nat)) := List.rec (some []) (fun f _ ih => match tyd P f.type, ih with
  | some (sz, _, _), some l => some ((f.offset, sz) :: l)
  | _, _ => none) fs
theorem places_ok : ∀ {fs : List Field} {l : List (Nat × Nat)}, places P fs = some l → fs.mapM (fun f => (P.info? f.type).map fun i => (f.offset, i.size)) = some l
  | [], l, hl => by cases hl; rfl
  | f :: fs, l, hl => by
    have hl : (match tyd P f.type, places P fs with
      | some (sz, _, _), some l => some ((f.offset, sz) :: l)
      | _, _ => none) = some l := hl
    split at hl
    · rename_i sz b z l' ht hl'
      cases hl
      obtain ⟨i, q1, q2, _⟩ := tyd_inf ht
      simp [List.mapM_cons, q1, q2, places_ok hl']
    · cases hl
def buildC (P : Program) (env : Env) (big : Bool) (n : Nat → Bool) (t : TypeId) (ps : Array (Nat × Operand)) : OpC := match P.underlying t with
  | some (.struct fs) => match tyz P env t, places P fs.toList with
    | some y, some l => ⟨fun _ F h => match fillT (fun i => l[i]?) y.zt (parts big n ps.toList F) with
      | some c => .val (.ag c) h
      | none => .no 234⟩
    | _, _ => noC 235
  | some (.array _ e) => match tyz P env t, tyd P e with
    | some y, some (sz, _, _) => ⟨fun _ F h => match fillT (fun i => some (i * sz, sz)) y.zt (parts big n ps.toList F) with
      | some c => .val (.ag c) h
      | none => .no 236⟩
    | _, _ => noC 237
  | _ => noC 238
theorem map_pairs (ρ : Operand → Value) (ps : Array (Nat × Operand)) : (ps.map fun (i, x) => (i, ρ x)).toList = ps.toList.map fun p => (p.1, ρ p.2) := by simp
theorem buildC_ok (he : EnvOK P env) {t : TypeId} {ps : Array (Nat × Operand)} (ho : o.op = .build t ps) : PuC P W0 big n o (buildC P env big n t ps) := by
  have ho' : ∀ ρ, execOp ρ o = (do Pure.pure (.value (← Instr.build t (ps.map fun (i, x) => (i, ρ x))))) := fun ρ => by simp [execOp, ho]
  unfold buildC
  split
  · rename_i fs hu
    split
    · rename_i y l hy hl
      obtain ⟨h1, h2⟩ := tyz_ok he hy
      refine PuC.of (s := fun ρ => Instr.build t (ps.map fun (i, x) => (i, ρ x))) ho' fun hd φ F h a w hF hs => ?_
      show RunOK P W0 φ h w _ (match fillT (fun i => l[i]?) y.zt (parts big n ps.toList F) with
        | some c => .val (.ag c) h
        | none => .no 234)
      split
      · rename_i c hc
        obtain ⟨cs', q1, q2, q3, q4⟩ := fillT_ok (cs := y.z.cells) (parts_ok hF ps.toList) (h2.rel φ) h2.ok hc
        refine ⟨φ, .agg cs', w, ?_, St.refl _ _, hs, VR.ag' q2 q3⟩
        obtain ⟨it, i1, i2, i3, i4⟩ := h1
        refine Go.run_build w t _ cs' ?_
        rw [map_pairs]
        unfold Program.built
        rw [hu, i1]
        simp only [i4, places_ok hl]
        simpa using q1
      · trivial
    · exact noC_ok _
  · rename_i k e hu
    split
    · rename_i y sz b z hy ht
      obtain ⟨h1, h2⟩ := tyz_ok he hy
      refine PuC.of (s := fun ρ => Instr.build t (ps.map fun (i, x) => (i, ρ x))) ho' fun hd φ F h a w hF hs => ?_
      show RunOK P W0 φ h w _ (match fillT (fun i => some (i * sz, sz)) y.zt (parts big n ps.toList F) with
        | some c => .val (.ag c) h
        | none => .no 236)
      split
      · rename_i c hc
        obtain ⟨cs', q1, q2, q3, q4⟩ := fillT_ok (cs := y.z.cells) (parts_ok hF ps.toList) (h2.rel φ) h2.ok hc
        have hz : ∀ w, (zeroValue t).run P w = .ok y.z w := fun w => h1.run_zero
        have hsz : ∀ w, (sizeOf e).run P w = .ok sz w := fun w => (tyd_inf ht).run_size
        refine ⟨φ, .agg cs', w, ?_, St.refl _ _, hs, VR.ag' q2 q3⟩
        rw [← map_pairs] at q1
        simp only [Instr.build, Sem.run_bind, hz, Result.andThen_ok, run_underlying hu, hsz, q1, Sem.run_pure]
      · trivial
    · exact noC_ok _
  · exact noC_ok _
def le24 (k : Nat) : Bool := Nat.ble k 16777216
theorem lim24 {k : Nat} (h : le24 k = true) : ¬ (k > 2 ^ 24) := by
  have h1 : k ≤ 16777216 := Nat.le_of_ble_eq_true h
  have h2 : (2 : Nat) ^ 24 = 16777216 := by decide
  rw [h2]; omega
def buildSV (e : TypeId) (y : TyZ) (len : Nat) (ps : List (Nat × V)) (h : Hp) : Ox := match fillT (fun i => some (i * y.size, y.size)) (repT len y.zt) ps with
  | some c => newS e y.size c len len h
  | none => .no 239
theorem buildSV_ok {t e : TypeId} {y : TyZ} {len : Nat} {ps : List (Nat × V)} {vs : Array (Nat × Value)} (hs : Sm W0 φ h w) (hu : P.underlying t = some (.slice e)) (h1 : Inf P e y.size y.bytes y.z) (h2 : Zero y.z y.zt) (b1 : 0 < y.size) (b2 : y.z.cells.size = y.size) (b3 : ¬ (len * y.size > 2 ^ 24)) (hp : PR φ ps vs.toList) :
    RunOK P W0 φ h w (Instr.buildSlice t len vs) (buildSV e y len ps h) := by
  unfold buildSV
  split
  · rename_i c hc
    have hr1 : TR φ (repT len y.zt) (reps len y.z.cells.toList).toArray.toList := repT_ok (h2.rel φ) len
    have hr2 : ∀ x ∈ (reps len y.z.cells.toList).toArray.toList, cellsOk x = true := reps_ok h2.ok len
    obtain ⟨cs', q1, q2, q3, q4⟩ := fillT_ok (cs := (reps len y.z.cells.toList).toArray) hp hr1 hr2 hc
    have hz : ∀ w, (zeroValue e).run P w = .ok y.z w := fun w => h1.run_zero
    have hsz : ∀ w, (sizeOf e).run P w = .ok y.size w := fun w => h1.run_size
    refine newS_ok (cs := cs'.toList) hs q2 q3 (Nat.le_refl _) ?_
    simp only [Instr.buildSlice, Sem.run_bind, run_underlying hu, Result.andThen_ok, hsz, b3, if_false]
    by_cases h0 : len * y.size = 0
    · have hl0 : len = 0 := by
        rcases Nat.eq_zero_or_pos len with h | h
        · exact h
        · have := Nat.mul_pos h b1; omega
      subst hl0
      have e0 : (reps 0 y.z.cells.toList).toArray = (#[] : Array Value) := by simp [reps]
      rw [e0] at q1
      have e1 : (Array.range 0).map (fun x => (#[] : Array Value)[x % (#[] : Array Value).size]!) = #[] := by simp
      simp only [Nat.zero_mul, if_true, Sem.run_bind, Sem.run_pure, Result.andThen_ok, e1, q1]
      simp [Go.newRow]
    · simp only [h0, if_false, Sem.run_bind, hz, Result.andThen_ok, Sem.run_pure]
      have e1 : (Array.range (len * y.size)).map (fun x => y.z.cells[x % y.z.cells.size]!) = (reps len y.z.cells.toList).toArray := by
        rw [← zeroRow_reps b2 b1]
        apply Array.ext'
        simp [zeroRow, b2]
      rw [e1, q1]
      simp [Go.newRow]
  · trivial
def buildSC (P : Program) (env : Env) (big : Bool) (n : Nat → Bool) (t : TypeId) (len : Nat) (ps : Array (Nat × Operand)) : OpC := match P.underlying t with
  | some (.slice e) => match tyz P env e with
    | some y => ite' (Bool.and (Nat.ble 1 y.size) (Bool.and (Nat.beq y.z.cells.size y.size) (le24 (len * y.size)))) ⟨fun _ F h => buildSV e y len (parts big n ps.toList F) h⟩ (noC 240)
    | none => noC 241
  | _ => noC 242
theorem buildSC_ok (he : EnvOK P env) {t : TypeId} {len : Nat} {ps : Array (Nat × Operand)} (ho : o.op = .buildSlice t len ps) : PuC P W0 big n o (buildSC P env big n t len ps) := by
  have ho' : ∀ ρ, execOp ρ o = (do Pure.pure (.value (← Instr.buildSlice t len (ps.map fun (i, x) => (i, ρ x))))) := fun ρ => by simp [execOp, ho]
  unfold buildSC
  split
  · rename_i e hu
    split
    · rename_i y hy
      obtain ⟨h1, h2⟩ := tyz_ok he hy
      refine ite_cases (Q := PuC P W0 big n o) (fun hb => ?_) (fun _ => noC_ok _)
      simp only [Bool.and_eq_true] at hb
      have b1 : 0 < y.size := Nat.le_of_ble_eq_true hb.1
      have b2 : y.z.cells.size = y.size := Nat.eq_of_beq_eq_true hb.2.1
      have b3 := lim24 hb.2.2
      clear hb
      refine PuC.of ho' fun hd φ F h a w hF hs => ?_
      have hp : PR φ (parts big n ps.toList F) (ps.map fun (i, x) => (i, a.eval x)).toList := by rw [map_pairs]; exact parts_ok hF ps.toList
      exact buildSV_ok hs hu h1 h2 b1 b2 b3 hp
    · exact noC_ok _
  · exact noC_ok _
end
end
end Go.Ev
/-
  An operation made ready to run: maps, kinds, comparisons, built-in functions. No program in sight.
-/
namespace Go.Ev
open Go Go.SL Go.RowKit
noncomputable section
section
variable {P : Program} {W0 w : World} {φ : Phi} {h : Hp} {o : Oper} {a : Act} {big : Bool} {n : Nat → Bool} {F : R} {env : Env}
/-! ### Maps -/
def makeMC (P : Program) (t : TypeId) (r : Option Operand) : OpC := match r, P.underlying t with
  | none, some (.map kt _) => match P.underlying kt with
    | some (.int kd) => ⟨fun _ _ h => newM kd h⟩
    | _ => noC 250
  | _, _ => noC 251
theorem makeMC_ok {t : TypeId} {r : Option Operand} (ho : o.op = .makeMap t r) : PuC P W0 big n o (makeMC P t r) := by
  unfold makeMC
  split
  · split
    · rename_i kd _
      exact PuC.of (s := fun _ => Instr.makeMap t none) (fun ρ => by simp [execOp, ho]) fun hd φ F h a w hF hs => newM_ok hs
    · exact noC_ok _
  · exact noC_ok _
def lookC (P : Program) (t : TypeId) (ok : Bool) (rx ry : Rd) : OpC := match P.underlying t with
  | some (.map kt et) => match P.underlying kt, tyd P et with
    | some (.int kd), some (_, _, z) => ⟨fun _ F h => findM kd ok (ofV z) (rx.get F) (ry.get F) h⟩
    | _, _ => noC 252
  | _ => noC 253
theorem lookC_ok {t : TypeId} {ok : Bool} {x y : Operand} (ho : o.op = .lookup t x y ok) : PuC P W0 big n o (lookC P t ok (opd big n x) (opd big n y)) := by
  unfold lookC
  split
  · rename_i kt et hu
    split
    · rename_i kd s b z hk ht
      exact PuC.of (s := fun ρ => Instr.lookup t (ρ x) (ρ y) ok) (fun ρ => by simp [execOp, ho]) fun hd φ F h a w hF hs => findM_ok hs (opd_ok hF x) (opd_ok hF y) hu hk (tyd_inf ht)
    · exact noC_ok _
  · exact noC_ok _
def setMC (P : Program) (t : TypeId) (rx ry rv : Rd) : OpC := match P.underlying t with
  | some (.map kt _) => match P.underlying kt with
    | some (.int kd) => ⟨fun _ F h => setM kd (rx.get F) (ry.get F) (rv.get F) h⟩
    | _ => noC 254
  | _ => noC 255
theorem setMC_ok {t : TypeId} {x y v : Operand} (ho : o.op = .mapUpdate t x y v ∨ o.op = .insert t x y v) : PuC P W0 big n o (setMC P t (opd big n x) (opd big n y) (opd big n v)) := by
  unfold setMC
  split
  · rename_i kt et hu
    split
    · rename_i kd hk
      intro hd φ F h a w hF hs
      have e : execOp a.eval o = (do Instr.mapUpdate t (a.eval x) (a.eval y) (a.eval v); Pure.pure .skip) := by rcases ho with ho | ho <;> simp [execOp, ho]
      rw [e]
      exact setM_ok hs (opd_ok hF x) (opd_ok hF y) (opd_ok hF v) hu hk
    · exact noC_ok _
  · exact noC_ok _

/-! ### Copies, checks, tuples, functions -/
def moveC (rx : Rd) : OpC := ⟨fun _ F h => .val (rx.get F) h⟩
theorem moveC_ok {x : Operand} (ho : o.op = .move x ∨ o.op = .assign x) : PuC P W0 big n o (moveC (opd big n x)) :=
  fun hd φ F h a w hF hs => OpRun.pure hs (by rcases ho with ho | ho <;> simp [execOp, ho]) (opd_ok hF x)
def pickC (rc rx ry : Rd) : OpC := ⟨fun _ F h => elB (rc.get F) (.no 256) fun b => .val (ite' b (rx.get F) (ry.get F)) h⟩
theorem pickC_ok {c x y : Operand} (ho : o.op = .pick c x y) : PuC P W0 big n o (pickC (opd big n c) (opd big n x) (opd big n y)) := by
  intro hd φ F h a w hF hs
  have hc := opd_ok hF c
  show OpRun P W0 φ h w _ (elB ((opd big n c).get F) (.no 256) fun b => .val (ite' b ((opd big n x).get F) ((opd big n y).get F)) h)
  generalize (opd big n c).get F = cv at hc
  cases cv <;> try trivial
  rename_i b
  have hb := hc.b
  cases b with
  | true => exact OpRun.pure hs (by simp [execOp, ho, hb, asBool]) (opd_ok hF x)
  | false => exact OpRun.pure hs (by simp [execOp, ho, hb, asBool]) (opd_ok hF y)
def chk (x : V) (h : Hp) : Ox := match x with
  | .p _ _ => .val x h
  | .fn _ _ _ => .val x h
  | .ic _ _ => .val x h
  | _ => .no 257
def nilC (rx : Rd) : OpC := ⟨fun _ F h => chk (rx.get F) h⟩
theorem nilC_ok {x : Operand} (ho : o.op = .nilCheck x) : PuC P W0 big n o (nilC (opd big n x)) := by
  intro hd φ F h a w hF hs
  have hx := opd_ok hF x
  show OpRun P W0 φ h w _ (chk ((opd big n x).get F) h)
  generalize (opd big n x).get F = xv at hx
  unfold chk
  split
  · obtain ⟨B, _, e⟩ := hx.p
    exact OpRun.pure hs (v' := a.eval x) (by simp [execOp, ho, e]) hx
  · have hx' := hx
    unfold VR at hx
    obtain ⟨ys, zs, e, _⟩ := hx
    exact OpRun.pure hs (v' := a.eval x) (by simp [execOp, ho, e]) hx'
  · have hx' := hx
    unfold VR at hx
    obtain ⟨y, e, _⟩ := hx
    exact OpRun.pure hs (v' := a.eval x) (by simp [execOp, ho, e]) hx'
  · trivial
def extrC (i : Nat) (rx : Rd) : OpC := ⟨fun _ F h => extrV i (rx.get F) h⟩
theorem extrC_ok {x : Operand} {i : Nat} (ho : o.op = .extract x i) : PuC P W0 big n o (extrC i (opd big n x)) :=
  PuC.of (s := fun ρ => Instr.extract (ρ x) i) (fun ρ => by simp [execOp, ho]) fun hd φ F h a w hF hs => extrV_ok hs (opd_ok hF x)
def funcC (big : Bool) (n : Nat → Bool) (fn : Fn) (fs cs : List Operand) : OpC := match fn with
  | .func f => ⟨fun _ F h => .val (.fn f (opds big n fs F) (opds big n cs F)) h⟩
  | _ => noC 258
theorem funcC_ok {fn : Fn} {fs cs : Array Operand} (ho : o.op = .makeFunc fn fs cs) : PuC P W0 big n o (funcC big n fn fs.toList cs.toList) := by
  unfold funcC
  split
  · rename_i f
    exact fun hd φ F h a w hF hs => OpRun.pure hs (v' := .func (.func f) (fs.map a.eval) (cs.map a.eval)) (by simp [execOp, ho, Instr.makeFunc]) (by
      unfold VR
      exact ⟨_, _, rfl, by simpa using opds_ok hF fs.toList, by simpa using opds_ok hF cs.toList⟩)
  · exact noC_ok _
def ifaceC (P : Program) (t : TypeId) (rx : Rd) : OpC := match P.underlying t with
  | some td => ite' (notIface td) ⟨fun _ F h => .val (.ic t (rx.get F)) h⟩ (noC 259)
  | none => noC 260
theorem ifaceC_ok {t : TypeId} {x : Operand} (ho : o.op = .makeInterface t x) : PuC P W0 big n o (ifaceC P t (opd big n x)) := by
  unfold ifaceC
  split
  · rename_i td hu
    refine ite_cases (Q := PuC P W0 big n o) (fun hni => ?_) (fun _ => noC_ok _)
    exact fun hd φ F h a w hF hs => OpRun.pure hs (v' := .iface t (a.eval x)) (by
      simp only [execOp, ho, Instr.makeInterface, Sem.run_bind, run_underlying hu, Result.andThen_ok]
      cases td <;> simp_all [notIface]) (by unfold VR; exact ⟨_, rfl, opd_ok hF x⟩)
  · exact noC_ok _

/-! ### Signs, kinds -/
def unC (op : UnOp) (rx : Rd) : OpC := match op with
  | .not => ⟨fun _ F h => notV (rx.get F) h⟩
  | .neg => ⟨fun _ F h => negV (rx.get F) h⟩
  | .xor => ⟨fun _ F h => comV (rx.get F) h⟩
  | .plus => noC 261
theorem unC_ok {op : UnOp} {t : TypeId} {x : Operand} (ho : o.op = .unOp op t x) : PuC P W0 big n o (unC op (opd big n x)) := by
  have ho' : ∀ ρ, execOp ρ o = (do Pure.pure (.value (← Op.unary op (ρ x)))) := fun ρ => by simp [execOp, ho]
  unfold unC
  cases op with
  | not => exact PuC.of ho' fun hd φ F h a w hF hs => notV_ok hs (opd_ok hF x)
  | neg => exact PuC.of ho' fun hd φ F h a w hF hs => negV_ok hs (opd_ok hF x)
  | xor => exact PuC.of ho' fun hd φ F h a w hF hs => comV_ok hs (opd_ok hF x)
  | plus => exact noC_ok _
def notStr (x : V) (k : Ox) : Ox := match x with | .s _ _ => .no 262 | _ => k
def convC (P : Program) (s t : TypeId) (rx : Rd) : OpC := match P.underlying s, P.underlying t with
  | some (.int _), some (.int kd) => ⟨fun _ F h => convI kd (rx.get F) h⟩
  | some (.int _), some (.float .f64) => ⟨fun _ F h => convF (rx.get F) h⟩
  | some (.slice e), some .string => match P.underlying e with
    | some (.int .u8) => ⟨fun _ F h => notStr (rx.get F) (convBS (rx.get F) h)⟩
    | _ => noC 263
  | some .string, some (.slice e) => match P.underlying e with
    | some (.int .u8) => ⟨fun _ F h => convSB e (rx.get F) h⟩
    | _ => noC 264
  | some .string, some .string => ⟨fun _ F h => elS (rx.get F) (.no 268) fun n s => .val (.s n s) h⟩
  | some (.slice e), some (.slice _) => ite' (Nat.beq s t) (match P.underlying e with
    | some (.int .u8) => ⟨fun _ F h => convSS (rx.get F) h⟩
    | _ => noC 265) (noC 266)
  | _, _ => noC 267
theorem convC_ok {s t : TypeId} {x : Operand} (ho : o.op = .convert s t x) : PuC P W0 big n o (convC P s t (opd big n x)) := by
  have ho' : ∀ ρ, execOp ρ o = (do Pure.pure (.value (← convert s t (ρ x)))) := fun ρ => by simp [execOp, ho]
  unfold convC
  split
  · rename_i ks kd hus hut
    exact PuC.of ho' fun hd φ F h a w hF hs => convI_ok hs (opd_ok hF x) hus hut
  · rename_i ks hus hut
    exact PuC.of ho' fun hd φ F h a w hF hs => convF_ok hs (opd_ok hF x) hus hut
  · rename_i e hus hut
    split
    · rename_i hue
      refine PuC.of ho' fun hd φ F h a w hF hs => ?_
      show RunOK P W0 φ h w _ (notStr ((opd big n x).get F) (convBS ((opd big n x).get F) h))
      unfold notStr
      split
      · trivial
      · rename_i hn
        exact convBS_ok hs (opd_ok hF x) hus hue hut (fun n y hh => hn n y hh)
    · exact noC_ok _
  · rename_i e hus hut
    split
    · rename_i hue
      exact PuC.of ho' fun hd φ F h a w hF hs => convSB_ok hs (opd_ok hF x) hus hut hue
    · exact noC_ok _
  · rename_i hus hut
    refine PuC.of ho' fun hd φ F h a w hF hs => elS_cases (Q := RunOK P W0 φ h w _) (opd_ok hF x) trivial fun m y hm hy => ?_
    exact ⟨φ, _, w, by rw [hm]; simp [convert, run_underlying hus, run_underlying hut], St.refl _ _, hs, VR.s' hy⟩
  · rename_i e e' hus hut
    refine ite_cases (Q := PuC P W0 big n o) (fun hb => ?_) (fun _ => noC_ok _)
    have hb := Nat.eq_of_beq_eq_true hb
    subst hb
    split
    · rename_i hue
      exact PuC.of ho' fun hd φ F h a w hF hs => convSS_ok hs (opd_ok hF x) hus hue
    · exact noC_ok _
  · exact noC_ok _
def isConst (x : Operand) : Bool := match x with | .const _ => true | _ => false
def eqIV (c neg : Bool) (x y : V) (h : Hp) : Ox := match x, y with
  | .ni, .ni => ite' c (.val (.b (ite' neg false true)) h) (.no 269)
  | x, y => ofBool neg (eqI x y) h
def eqC (P : Program) (neg : Bool) (t : TypeId) (c : Bool) (rx ry : Rd) : OpC := match P.underlying t with
  | some (.int _) => ite' neg ⟨fun _ F h => intF .neq (fun _ a b => .b (not (Nat.beq a b))) (rx.get F) (ry.get F) h⟩ ⟨fun _ F h => intF .eql (fun _ a b => .b (Nat.beq a b)) (rx.get F) (ry.get F) h⟩
  | some .string => ⟨fun _ F h => ofBool neg (eqT (rx.get F) (ry.get F)) h⟩
  | some (.pointer _) => ⟨fun _ F h => ofBool neg (eqP (rx.get F) (ry.get F)) h⟩
  | some (.slice _) => ⟨fun _ F h => ofBool neg (eqS (rx.get F) (ry.get F)) h⟩
  | some (.interface _) => ⟨fun _ F h => eqIV c neg (rx.get F) (ry.get F) h⟩
  | some (.func _ _ _) => ⟨fun _ F h => ofBool neg (eqFn (rx.get F) (ry.get F)) h⟩
  | some .bool => ⟨fun _ F h => ofBool neg (eqB (rx.get F) (ry.get F)) h⟩
  | some (.float _) => ⟨fun _ F h => cmpFl (bif neg then .neq else .eql) (rx.get F) (ry.get F) h⟩
  | some (.struct _) => ite' (Bool.and (not neg) (threeB P t)) ⟨fun _ F h => eq3 (rx.get F) (ry.get F) h⟩ (noC 270)
  | _ => noC 271
theorem eqC_ok {neg : Bool} {t yt : TypeId} {x y : Operand} (ho : o.op = .binOp (bif neg then .neq else .eql) t x y yt) : PuC P W0 big n o (eqC P neg t (isConst y) (opd big n x) (opd big n y)) := by
  have ho' : ∀ ρ, execOp ρ o = (do Pure.pure (.value (← (do eqGuard (bif neg then .neq else .eql) t x y (ρ x) (ρ y); binOp (bif neg then .neq else .eql) t (ρ x) (ρ y))))) := fun ρ => by simp [execOp, ho]
  unfold eqC
  split
  · rename_i k hu
    cases neg with
    | true =>
      intro hd φ F h a w hF hs
      exact intF_ok (op := .neq) hs (opd_ok hF x) (opd_ok hF y) (cmp_ok (f := fun a b => not (Nat.beq a b)) (p := fun a b => ¬ a = b) (fun _ _ _ => rfl) (fun a b => by rw [beq_decide]; simp [Int.natCast_inj])) (fun k a' b v ha hb hv => by simp [execOp, ho, ha, hb, eqGuard_int, binI_run hv])
    | false =>
      intro hd φ F h a w hF hs
      exact intF_ok (op := .eql) hs (opd_ok hF x) (opd_ok hF y) (cmp_ok (f := fun a b => Nat.beq a b) (p := fun a b => a = b) (fun _ _ _ => rfl) (fun a b => by rw [beq_decide]; simp [Int.natCast_inj])) (fun k a' b v ha hb hv => by simp [execOp, ho, ha, hb, eqGuard_int, binI_run hv])
  · exact PuC.of ho' fun hd φ F h a w hF hs => eq_run hs (eqT_ok (opd_ok hF x) (opd_ok hF y))
  · rename_i e hu
    exact PuC.of ho' fun hd φ F h a w hF hs => eq_run hs (eqP_ok (opd_ok hF x) (opd_ok hF y) hu)
  · rename_i e hu
    exact PuC.of ho' fun hd φ F h a w hF hs => eq_run hs (eqS_ok (opd_ok hF x) (opd_ok hF y) hu)
  · rename_i ms hu
    refine PuC.of ho' fun hd φ F h a w hF hs => ?_
    show RunOK P W0 φ h w _ (eqIV (isConst y) neg ((opd big n x).get F) ((opd big n y).get F) h)
    unfold eqIV
    split
    · rename_i e1 e2
      refine ite_cases (Q := RunOK P W0 φ h w _) (fun hc => ?_) (fun _ => trivial)
      have hx := opd_ok hF x
      have hy := opd_ok hF y
      rw [e1] at hx
      rw [e2] at hy
      unfold VR at hx hy
      rw [hx, hy]
      refine nil_run hs hu ?_
      cases y with
      | const v => exact ⟨v, rfl⟩
      | tmp t => cases hc
      | global g => cases hc
      | func f => cases hc
    · exact eq_run hs (eqI_ok (opd_ok hF x) (opd_ok hF y) hu)
  · rename_i ps rs va hu
    exact PuC.of ho' fun hd φ F h a w hF hs => eq_run hs (eqFn_ok (opd_ok hF x) (opd_ok hF y) hu)
  · rename_i hu
    exact PuC.of ho' fun hd φ F h a w hF hs => eq_run hs (eqB_ok (opd_ok hF x) (opd_ok hF y) hu)
  · exact PuC.of ho' fun hd φ F h a w hF hs => cmpFl_ok hs (opd_ok hF x) (opd_ok hF y)
  · refine ite_cases (Q := PuC P W0 big n o) (fun hb => ?_) (fun _ => noC_ok _)
    simp only [Bool.and_eq_true, Bool.not_eq_true'] at hb
    obtain ⟨rfl, h3⟩ := hb
    exact PuC.of ho' fun hd φ F h a w hF hs => eq3_ok hs (opd_ok hF x) (opd_ok hF y) (threeB_ok h3)
  · exact noC_ok _
/-- two operands and a rule for whole numbers -/
def intC (op : BinOp) (f : IntKind → Nat → Nat → V) (rx ry : Rd) : OpC := ⟨fun _ F h => intF op f (rx.get F) (ry.get F) h⟩
theorem intC_ok {op : BinOp} {f : IntKind → Nat → Nat → V} {t yt : TypeId} {x y : Operand} (ho : o.op = .binOp op t x y yt) (hf : ∀ φ k (a b : Nat), ∃ v, binI op k a b = some v ∧ VR φ (f k a b) v) : PuC P W0 big n o (intC op f (opd big n x) (opd big n y)) :=
  fun hd φ F h a w hF hs => intF_ok hs (opd_ok hF x) (opd_ok hF y) (hf φ) (fun k a' b v ha hb hv => by simp [execOp, ho, ha, hb, eqGuard_int, binI_run hv])
def cmpC (P : Program) (op : BinOp) (t : TypeId) (f : Nat → Nat → Bool) (g : Nat → Nat → Nat → Nat → Bool) (rx ry : Rd) : OpC := match P.underlying t with
  | some .string => ⟨fun _ F h => ltT g (rx.get F) (ry.get F) h⟩
  | some (.float _) => ⟨fun _ F h => cmpFl op (rx.get F) (ry.get F) h⟩
  | _ => intC op (fun _ a b => .b (f a b)) rx ry
theorem cmpC_ok {op : BinOp} {t yt : TypeId} {x y : Operand} {f : Nat → Nat → Bool} {g : Nat → Nat → Nat → Nat → Bool} (ho : o.op = .binOp op t x y yt) (h1 : op ≠ .eql) (h2 : op ≠ .neq) (hf : ∀ φ k (a b : Nat), ∃ v, binI op k a b = some v ∧ VR φ (.b (f a b)) v)
    (hg : ∀ n s m r (w : World), s < 256 ^ n → r < 256 ^ m → (Op.stringOp op (strOf n s) (strOf m r)).run P w = .ok (.bool (g n s m r)) w) (hb : ∀ t a b, binOp op t (.string a) (.string b) = Op.stringOp op a b) : PuC P W0 big n o (cmpC P op t f g (opd big n x) (opd big n y)) := by
  have ho' : ∀ ρ, execOp ρ o = (do Pure.pure (.value (← (do eqGuard op t x y (ρ x) (ρ y); binOp op t (ρ x) (ρ y))))) := fun ρ => by simp [execOp, ho]
  unfold cmpC
  split
  · refine PuC.of ho' fun hd φ F h a w hF hs => ?_
    have hr := ltT_ok (P := P) (op := op) (f := g) (t := t) hs (opd_ok hF x) (opd_ok hF y) (fun n s m r a b => hg n s m r w a b) (hb t)
    show RunOK P W0 φ h w _ (ltT g ((opd big n x).get F) ((opd big n y).get F) h)
    cases hq : ltT g ((opd big n x).get F) ((opd big n y).get F) h with
    | val v h' =>
      rw [hq] at hr
      obtain ⟨φ', v', w', q1, q2⟩ := hr
      exact ⟨φ', v', w', by simp only [Sem.run_bind, eqGuard_ne h1 h2, Result.andThen_ok, q1], q2⟩
    | skip h' => rw [hq] at hr; exact hr.elim
    | pan v h' => rw [hq] at hr; exact hr.elim
    | no c => trivial
  · exact PuC.of ho' fun hd φ F h a w hF hs => cmpFl_ok hs (opd_ok hF x) (opd_ok hF y)
  · exact intC_ok ho hf
def restC (c : OpC) (P : Program) (t : TypeId) : OpC := match P.underlying t with
  | some (.int _) => c
  | _ => noC 272
def binC (P : Program) (op : BinOp) (t : TypeId) (c : Bool) (rx ry : Rd) : OpC := match op with
  | .add => match P.underlying t with
    | some .string => ⟨fun _ F h => catT (rx.get F) (ry.get F) h⟩
    | some (.float _) => ⟨fun _ F h => cmpFl .add (rx.get F) (ry.get F) h⟩
    | _ => intC .add addN rx ry
  | .sub => intC .sub subN rx ry
  | .mul => intC .mul mulN rx ry
  | .quo => ⟨fun _ F h => divF false (rx.get F) (ry.get F) h⟩
  | .rem => ⟨fun _ F h => divF true (rx.get F) (ry.get F) h⟩
  | .and => intC .and (bitN Nat.land (genV .and)) rx ry
  | .or => intC .or (bitN Nat.lor (genV .or)) rx ry
  | .xor => intC .xor (bitN Nat.xor (genV .xor)) rx ry
  | .andNot => intC .andNot (fun k a b => genV .andNot k a b) rx ry
  | .shl => ⟨fun _ F h => shlF (rx.get F) (ry.get F) h⟩
  | .shr => ⟨fun _ F h => shrF (rx.get F) (ry.get F) h⟩
  | .eql => eqC P false t c rx ry
  | .neq => eqC P true t c rx ry
  | .lss => cmpC P .lss t (fun a b => Nat.ble (Nat.succ a) b) strLt rx ry
  | .leq => cmpC P .leq t Nat.ble (fun n s m r => not (strLt m r n s)) rx ry
  | .gtr => cmpC P .gtr t (fun a b => Nat.ble (Nat.succ b) a) (fun n s m r => strLt m r n s) rx ry
  | .geq => cmpC P .geq t (fun a b => Nat.ble b a) (fun n s m r => not (strLt n s m r)) rx ry
theorem less_eq (n s m r : Nat) (hs : s < 256 ^ n) (hr : r < 256 ^ m) : Op.bytesLess (strOf n s).toList (strOf m r).toList = strLt n s m r := by
  rw [strOf_toList, strOf_toList]; exact bytesLess_eq n m s r hs hr
theorem lt_trich (n s m r : Nat) (hs : s < 256 ^ n) (hr : r < 256 ^ m) : (strLt n s m r || decide (strOf n s = strOf m r)) = !strLt m r n s := by
  rw [strLt_iff, strLt_iff, ← Bool.decide_or, ← decide_not]
  apply decide_eq_decide.2
  rw [strOf_inj hs hr]
  rcases Nat.lt_trichotomy n m with h | h | h
  · constructor
    · rintro ((h1 | ⟨h1, _⟩) | ⟨h1, _⟩) <;> omega
    · intro h1; left; omega
  · subst h
    have e : n - n = 0 := Nat.sub_self n
    rw [e]
    simp only [Nat.pow_zero, Nat.div_one]
    constructor
    · rintro ((h1 | ⟨h1, _⟩) | ⟨_, h1⟩) <;> omega
    · intro h1
      rcases Nat.lt_trichotomy s r with h2 | h2 | h2
      · left; left; exact h2
      · right; exact ⟨trivial, h2⟩
      · exact absurd (.inl h2) h1
  · constructor
    · rintro ((h1 | ⟨h1, _⟩) | ⟨h1, _⟩) <;> omega
    · intro h1; left; omega
theorem binC_ok {op : BinOp} {t yt : TypeId} {x y : Operand} (ho : o.op = .binOp op t x y yt) : PuC P W0 big n o (binC P op t (isConst y) (opd big n x) (opd big n y)) := by
  have ho' : ∀ ρ, execOp ρ o = (do Pure.pure (.value (← (do eqGuard op t x y (ρ x) (ρ y); binOp op t (ρ x) (ρ y))))) := fun ρ => by simp [execOp, ho]
  have plain : op ≠ .eql → op ≠ .neq → ∀ (c : OpC), (∀ hd φ F h a w, RelM φ big n F a → Sm W0 φ h w → RunOK P W0 φ h w (binOp op t (a.eval x) (a.eval y)) (c.run hd F h)) → PuC P W0 big n o c := fun h1 h2 c hc => by
    refine PuC.of ho' fun hd φ F h a w hF hs => ?_
    have hr := hc hd φ F h a w hF hs
    cases hq : c.run hd F h with
    | val v h' =>
      rw [hq] at hr
      obtain ⟨φ', v', w', q1, q2⟩ := hr
      exact ⟨φ', v', w', by simp only [Sem.run_bind, eqGuard_ne h1 h2, Result.andThen_ok, q1], q2⟩
    | skip h' => rw [hq] at hr; exact hr.elim
    | pan v h' => rw [hq] at hr; exact hr.elim
    | no c => trivial
  cases op with
  | add =>
    show PuC P W0 big n o (match P.underlying t with
      | some .string => ⟨fun _ F h => catT ((opd big n x).get F) ((opd big n y).get F) h⟩
      | some (.float _) => ⟨fun _ F h => cmpFl .add ((opd big n x).get F) ((opd big n y).get F) h⟩
      | _ => intC .add addN (opd big n x) (opd big n y))
    split
    · exact plain (by decide) (by decide) _ fun hd φ F h a w hF hs => catT_ok hs (opd_ok hF x) (opd_ok hF y)
    · exact PuC.of ho' fun hd φ F h a w hF hs => cmpFl_ok hs (opd_ok hF x) (opd_ok hF y)
    · exact intC_ok ho fun φ => addN_ok
  | sub => exact intC_ok ho fun φ => subN_ok
  | mul => exact intC_ok ho fun φ => mulN_ok
  | quo => exact plain (by decide) (by decide) _ fun hd φ F h a w hF hs => divF_ok (rem := false) hs (opd_ok hF x) (opd_ok hF y)
  | rem => exact plain (by decide) (by decide) _ fun hd φ F h a w hF hs => divF_ok (rem := true) hs (opd_ok hF x) (opd_ok hF y)
  | and => exact intC_ok ho fun φ => and_ok
  | or => exact intC_ok ho fun φ => or_ok
  | xor => exact intC_ok ho fun φ => xor_ok
  | andNot => exact intC_ok ho fun φ => andNot_ok
  | shl => exact plain (by decide) (by decide) _ fun hd φ F h a w hF hs => shlF_ok hs (opd_ok hF x) (opd_ok hF y)
  | shr => exact plain (by decide) (by decide) _ fun hd φ F h a w hF hs => shrF_ok hs (opd_ok hF x) (opd_ok hF y)
  | eql => exact eqC_ok (neg := false) ho
  | neq => exact eqC_ok (neg := true) ho
  | lss => exact cmpC_ok ho (by decide) (by decide) (fun φ => cmp_ok (f := fun a b => Nat.ble (Nat.succ a) b) (p := fun a b => a < b) (fun _ _ _ => rfl) (fun a b => by rw [ble_decide]; apply decide_eq_decide.2; omega)) (fun n s m r w hs hr => by simp [Op.stringOp, less_eq n s m r hs hr]) (fun _ _ _ => rfl)
  | leq => exact cmpC_ok ho (by decide) (by decide) (fun φ => cmp_ok (f := Nat.ble) (p := fun a b => a ≤ b) (fun _ _ _ => rfl) (fun a b => by rw [ble_decide]; apply decide_eq_decide.2; omega)) (fun n s m r w hs hr => by simp [Op.stringOp, less_eq n s m r hs hr, str_eq, lt_trich n s m r hs hr]) (fun _ _ _ => rfl)
  | gtr => exact cmpC_ok ho (by decide) (by decide) (fun φ => cmp_ok (f := fun a b => Nat.ble (Nat.succ b) a) (p := fun a b => b < a) (fun _ _ _ => rfl) (fun a b => by rw [ble_decide]; apply decide_eq_decide.2; omega)) (fun n s m r w hs hr => by simp only [Op.stringOp, less_eq n s m r hs hr, str_eq, lt_trich n s m r hs hr, Bool.not_not]; rfl) (fun _ _ _ => rfl)
  | geq => exact cmpC_ok ho (by decide) (by decide) (fun φ => cmp_ok (f := fun a b => Nat.ble b a) (p := fun a b => b ≤ a) (fun _ _ _ => rfl) (fun a b => by rw [ble_decide]; apply decide_eq_decide.2; omega)) (fun n s m r w hs hr => by simp [Op.stringOp, less_eq n s m r hs hr]) (fun _ _ _ => rfl)
end
end
end Go.Ev
/-
  Maps whose keys are integers: ranged over, struck from. No program in sight.
-/
namespace Go.SL
open Go Go.RowKit

theorem mfind_none {k : Int} : ∀ {es : Ent} {i : Nat}, (∀ e ∈ es, e.1 ≠ k) → mfind k es i = none
  | [], _, _ => rfl
  | e :: es, i, h => by
    simp only [mfind]
    rw [if_neg (fun he => h e (by simp) he.symm)]
    exact mfind_none fun x hx => h x (by simp [hx])
/-- where it stands, if it stands there -/
theorem mfind_split {k : Int} : ∀ {es : Ent} (_ : (es.map (·.1)).Nodup) (i : Nat), match mfind k es i with
    | some (j, v) => ∃ q, j = i + q ∧ q < es.length ∧ es.eraseIdx q = es.filter (fun e => !decide (e.1 = k)) ∧ ∃ e ∈ es, e.1 = k ∧ e.2.1 = v
    | none => es.filter (fun e => !decide (e.1 = k)) = es ∧ ∀ e ∈ es, e.1 ≠ k
  | [], _, i => by simp [mfind]
  | e :: es, hn, i => by
    have hn' : e.1 ∉ es.map (·.1) ∧ (es.map (·.1)).Nodup := List.nodup_cons.1 hn
    by_cases h : k = e.1
    · have hf : mfind k (e :: es) i = some (i, e.2.1) := by simp [mfind, h]
      rw [hf]
      refine ⟨0, by simp, by simp, ?_, e, by simp, h.symm, rfl⟩
      rw [List.eraseIdx_cons_zero, List.filter_cons_of_neg (by simp [h]), List.filter_eq_self.2]
      intro x hx
      simp only [Bool.not_eq_true', decide_eq_false_iff_not]
      intro hxe
      exact hn'.1 (List.mem_map.2 ⟨x, hx, by rw [hxe, h]⟩)
    · have hf : mfind k (e :: es) i = mfind k es (i + 1) := by simp [mfind, h]
      have ih := mfind_split (k := k) hn'.2 (i + 1)
      rw [hf]
      cases hm : mfind k es (i + 1) with
      | none =>
        rw [hm] at ih
        refine ⟨by rw [List.filter_cons_of_pos (by simpa using fun he => h he.symm), ih.1], ?_⟩
        intro x hx
        rcases List.mem_cons.1 hx with rfl | hx
        · exact fun he => h he.symm
        · exact ih.2 x hx
      | some p =>
        obtain ⟨j, v⟩ := p
        rw [hm] at ih
        obtain ⟨q, h1, h2, h3, x, hx, h4, h5⟩ := ih
        refine ⟨q + 1, by omega, by simpa using h2, ?_, x, by simp [hx], h4, h5⟩
        rw [List.eraseIdx_cons_succ, h3, List.filter_cons_of_pos (by simpa using fun he => h he.symm)]
theorem mget_mem {es : Ent} (hn : (es.map (·.1)).Nodup) {e : Int × Value × Nat} (he : e ∈ es) : mget es e.1 = some e.2.1 := by
  induction es with
  | nil => cases he
  | cons x xs ih =>
    have hn' : x.1 ∉ xs.map (·.1) ∧ (xs.map (·.1)).Nodup := List.nodup_cons.1 hn
    rw [mget_cons]
    rcases List.mem_cons.1 he with rfl | he
    · simp
    · rw [if_neg (fun h => hn'.1 (by rw [← h]; exact List.mem_map_of_mem he)), ih hn'.2 he]
theorem mget_not {es : Ent} {k : Int} (h : ∀ e ∈ es, e.1 ≠ k) : mget es k = none := by
  unfold mget
  rw [mfind_none h]
  rfl
section rules
variable {P : Program} {W0 : World} {n : Nat} {SQ : SPost} {F : Nat → Value} {D : List Deferred} {L : List Seg} {ops : Array Oper} {rest : List Oper} {o : Oper}
theorem G.range {t kt et : TypeId} {kd : IntKind} {x : Operand} {b ck : Nat} {es : Ent} {u : Nat → SObj → List Seg} (ha : At L b (mapO kd es ck) u) (ho : o.op = .range t x) (hr : runs n ops F o) {d : Nat} (hd : o.dst = some d) (hn : Nat.blt d n = true)
    (hu : P.underlying t = some (.map kt et)) (hx : ev F x = .map (some b))
    (k : ∀ bi, G P W0 n SQ ops rest (upd F d (.pointer (some ⟨bi, 0, none⟩))) D ([(bi, .obj (.mapIter (some b) ck #[] ck))] :: L)) : G P W0 n SQ ops (o :: rest) F D L :=
  G.eff hr hd hn fun w hm => by
    refine ⟨_, w.alloc (.mapIter (some b) ck #[] ck), _, ?_, hm.alloc _ (o := .obj (.mapIter (some b) ck #[] ck)) ?_, k w.heap.size⟩
    · have h1 := run_range_map (P := P) w t kt et b _ ck hu (hm.get ha).2
      simp [execOp, ho, hx, h1]
    · show (w.heap.push _)[w.heap.size]? = _
      simp
theorem left_iff {kd : IntKind} {es : Ent} {seen : Array Nat} : (leftOf (es.map (entV kd)).toArray seen).size = 0 ↔ ∀ e ∈ es, seen.contains e.2.2 = true := by
  unfold leftOf
  rw [← Array.length_toList]
  simp only [List.filter_toArray, List.length_eq_zero_iff, List.filter_eq_nil_iff, List.mem_map]
  constructor
  · intro h e he
    have := h _ ⟨e, he, rfl⟩
    simpa [entV] using this
  · rintro h _ ⟨e, he, rfl⟩
    have := h e he
    simpa [entV] using this
theorem left_mem {kd : IntKind} {es : Ent} {seen : Array Nat} {x : MapEntry} (h : x ∈ (leftOf (es.map (entV kd)).toArray seen).toList) : ∃ e ∈ es, x = entV kd e ∧ seen.contains e.2.2 = false := by
  unfold leftOf at h
  simp only [List.filter_toArray, List.mem_filter, List.mem_map] at h
  obtain ⟨⟨e, he, rfl⟩, h2⟩ := h
  exact ⟨e, he, rfl, by simpa [entV] using h2⟩
theorem G.nextEnd {x : Operand} {kd : IntKind} {b bi ck since c0 : Nat} {seen : Array Nat} {es : Ent} {u ui : Nat → SObj → List Seg} (hi : At L bi (.obj (.mapIter (some b) since seen c0)) ui) (ha : At L b (mapO kd es ck) u) (hold : ∀ e ∈ es, e.2.2 < since) (hsc : since ≤ c0) (hall : ∀ e ∈ es, seen.contains e.2.2 = true)
    (ho : o.op = .next x false) (hr : runs n ops F o) {d : Nat} (hd : o.dst = some d) (hn : Nat.blt d n = true) (hx : ev F x = .pointer (some ⟨bi, 0, none⟩))
    (k : G P W0 n SQ ops rest (upd F d (.tuple [Value.bool false].toArray)) D L) : G P W0 n SQ ops (o :: rest) F D L :=
  G.val _ hr hd hn (fun w hm => by
    rcases run_next_at (P := P) w o.type bi b since c0 seen (es.map (entV kd)).toArray ck (hm.get hi).2 (hm.get ha).2 (fun x hx => by simp at hx; obtain ⟨a, b', c, hx, rfl⟩ := hx; exact hold _ hx) hsc with ⟨_, h1⟩ | ⟨e, he, _⟩
    · simp [execOp, ho, hx, h1]
    · obtain ⟨e', he', rfl, hs⟩ := left_mem he
      rw [hall e' he'] at hs
      cases hs) k
theorem G.nextOne {x : Operand} {kd : IntKind} {b bi ck since c0 : Nat} {seen : Array Nat} {es : Ent} {u ui : Nat → SObj → List Seg} (hi : At L bi (.obj (.mapIter (some b) since seen c0)) ui) (ha : At L b (mapO kd es ck) u) (hold : ∀ e ∈ es, e.2.2 < since) (hsc : since ≤ c0) (hall : ¬ ∀ e ∈ es, seen.contains e.2.2 = true)
    (ho : o.op = .next x false) (hr : runs n ops F o) {d : Nat} (hd : o.dst = some d) (hn : Nat.blt d n = true) (hx : ev F x = .pointer (some ⟨bi, 0, none⟩))
    (k : ∀ e ∈ es, seen.contains e.2.2 = false → G P W0 n SQ ops rest (upd F d (.tuple [Value.bool true, .int kd e.1, e.2.1].toArray)) D (ui bi (.obj (.mapIter (some b) since (seen.push e.2.2) ck)))) : G P W0 n SQ ops (o :: rest) F D L :=
  G.eff hr hd hn fun w hm => by
    rcases run_next_at (P := P) w o.type bi b since c0 seen (es.map (entV kd)).toArray ck (hm.get hi).2 (hm.get ha).2 (fun x hx => by simp at hx; obtain ⟨a, b', c, hx, rfl⟩ := hx; exact hold _ hx) hsc with ⟨h0, _⟩ | ⟨e, he, w1, hw, h1⟩
    · exact absurd (left_iff.1 h0) hall
    · obtain ⟨e', he', rfl, hs⟩ := left_mem he
      have hm1 : Mem W0 w1 L := by rcases hw with rfl | rfl; exact hm; exact hm.drew
      exact ⟨_, _, _, by simp [execOp, ho, hx, h1]; exact ⟨⟨rfl, rfl⟩, rfl⟩, (hm1.obj hi (y := .mapIter (some b) since (seen.push e'.2.2) ck)).2, k e' he' hs⟩
theorem G.entry {x : Operand} {kd : IntKind} {b bi ck since : Nat} {seen : Array Nat} {es : Ent} {e : Int × Value × Nat} {u ui : Nat → SObj → List Seg} (hi : At L bi (.obj (.mapIter (some b) since (seen.push e.2.2) ck)) ui) (ha : At L b (mapO kd es ck) u) (he : e ∈ es) (hnd : (es.map (·.2.2)).Nodup)
    (ho : o.op = .entry x) (hr : runs n ops F o) {d : Nat} (hd : o.dst = some d) (hn : Nat.blt d n = true) (hx : ev F x = .pointer (some ⟨bi, 0, none⟩))
    (k : G P W0 n SQ ops rest (upd F d (.tuple [Value.int kd e.1, e.2.1].toArray)) D L) : G P W0 n SQ ops (o :: rest) F D L :=
  G.val _ hr hd hn (fun w hm => by
    have h1 := run_entry_at (P := P) w bi b since seen (es.map (entV kd)).toArray ck (entV kd e) (hm.get hi).2 (hm.get ha).2 (by simpa using List.mem_map_of_mem he) (by simpa [Function.comp_def, entV] using hnd)
    simp [execOp, ho, hx, h1, entV]) k
theorem run_delete_int {t kt et ty : TypeId} {kd : IntKind} {b ck : Nat} {es : Ent} {k0 : Int} {w : World} (hu : P.underlying t = some (.map kt et)) (hk : P.underlying kt = some (.int kd)) (hb : w.heap[b]? = some (.map (es.map (entV kd)).toArray ck)) (hnd : (es.map (·.1)).Nodup) (t2 : TypeId) :
    (Builtin.delete_ #[t, t2] ty #[.map (some b), .int kd k0]).run P w = .ok (.tuple #[]) { w with heap := w.heap.setIfInBounds b (.map ((es.filter fun e => !decide (e.1 = k0)).map (entV kd)).toArray ck) } := by
  have h1 : ∀ e w, (Instr.checkKey e 10000 kt (.int kd k0)).run P w = .ok () w := fun e w => MapKept.run_checkKey (d := .int kd) (k := .int kd k0) hk (by simp [MapKept.IsKey]) e 9999
  have h2 : ∀ w, (Instr.findKey kt (.int kd k0) (es.map (entV kd))).run P w = .ok (mfind k0 es 0) w := fun w => MapKept.run_findKey hk (findNow_eq kd k0 es 0)
  have h4 := MapKept.run_getObj_map (P := P) hb
  have h5 := mfind_split (k := k0) hnd 0
  cases hf : mfind k0 es 0 with
  | none =>
    rw [hf] at h5
    simp [Builtin.delete_, run_underlying hu, h4, h1, h2, hf, MapKept.run_setObj_map _ hb, Result.andThen, h5.1]
  | some p =>
    obtain ⟨i, v⟩ := p
    rw [hf] at h5
    obtain ⟨q, hq, hlt, he, _⟩ := h5
    obtain rfl : i = q := by omega
    have e1 : ((es.map (entV kd)).toArray.eraseIdxIfInBounds i) = ((es.filter fun e => !decide (e.1 = k0)).map (entV kd)).toArray := by
      rw [← he]
      apply Array.toList_inj.1
      simp [Array.eraseIdxIfInBounds, hlt]
      exact (ChangeMaps.map_eraseIdx (entV kd) es i).symm
    simp [Builtin.delete_, run_underlying hu, h4, h1, h2, hf, MapKept.run_setObj_map _ hb, Result.andThen]
    rw [← ChangeMaps.map_eraseIdx, he]
theorem G.delete {t t2 kt et : TypeId} {kd : IntKind} {x y : Operand} {b ck : Nat} {es : Ent} {k0 : Int} {u : Nat → SObj → List Seg} (ha : At L b (mapO kd es ck) u) (hnd : (es.map (·.1)).Nodup) (ho : o.op = .call { callee := .builtin .delete, args := #[x, y], argTypes := #[t, t2] }) (hr : runs n ops F o) (hd : o.dst = none)
    (hu : P.underlying t = some (.map kt et)) (hk : P.underlying kt = some (.int kd)) (hx : ev F x = .map (some b)) (hy : ev F y = .int kd k0)
    (k : G P W0 n SQ ops rest F D (u b (mapO kd (es.filter fun e => !decide (e.1 = k0)) ck))) : G P W0 n SQ ops (o :: rest) F D L :=
  G.effNone hr hd fun w hm => by
    have h1 := hm.obj ha (y := .map ((es.filter fun e => !decide (e.1 = k0)).map (entV kd)).toArray ck)
    have h2 := run_delete_int (P := P) (k0 := k0) (ty := o.type) hu hk h1.1 hnd t2
    exact ⟨_, _, _, by simp [execOp, ho, resolve, invoke, builtin, hx, hy, h2]; rfl, h1.2, k⟩
end rules
end Go.SL
/-
  An operation made ready to run: built-in functions, calls, panics; all of them. No program in sight.
-/
namespace Go.Ev
open Go Go.SL Go.RowKit
noncomputable section
section
variable {P : Program} {W0 w : World} {φ : Phi} {h : Hp} {o : Oper} {a : Act} {big : Bool} {n : Nat → Bool} {F : R} {env : Env}
/-! ### Built-in functions -/
theorem PuC.builtin {c : OpC} {b : Builtin} {cl : Call} (ho : o.op = .call cl) (hc : cl.callee = .builtin b) (s : Array Value → Sem Value) (hb : ∀ ty consts args, builtin b cl.argTypes ty consts args = (do Pure.pure (.value (← s args))))
    (hr : ∀ hd φ F h a w, RelM φ big n F a → Sm W0 φ h w → RunOK P W0 φ h w (s (cl.args.map a.eval)) (c.run hd F h)) : PuC P W0 big n o c :=
  PuC.of (s := fun ρ => s (cl.args.map ρ)) (fun ρ => by simp [execOp, ho, resolve, hc, invoke, hb]) hr
def lenC (P : Program) (t : TypeId) (rx : Rd) : OpC := match P.underlying t with
  | some (.slice _) => ⟨fun _ F h => lenS (rx.get F) h⟩
  | some .string => ⟨fun _ F h => lenT (rx.get F) h⟩
  | some (.array k _) => ⟨fun _ _ h => .val (.i .i64 (.ofNat k)) h⟩
  | _ => noC 300
theorem lenC_ok {cl : Call} {t : TypeId} {x : Operand} (ho : o.op = .call cl) (hc : cl.callee = .builtin .len) (hx : cl.args = #[x]) (ht : cl.argTypes = #[t]) : PuC P W0 big n o (lenC P t (opd big n x)) := by
  have key : ∀ c : OpC, (∀ hd φ F h a w, RelM φ big n F a → Sm W0 φ h w → RunOK P W0 φ h w (Builtin.len_ #[t] 0 #[a.eval x]) (c.run hd F h)) → PuC P W0 big n o c := fun c hc' =>
    PuC.builtin ho hc (fun args => Builtin.len_ #[t] 0 args) (fun ty consts args => by rw [ht]; rfl) fun hd φ F h a w hF hs => by rw [hx]; rw [List.map_toArray]; exact hc' hd φ F h a w hF hs
  unfold lenC
  split
  · rename_i e hu
    exact key _ fun hd φ F h a w hF hs => lenS_ok (t := t) rfl rfl hs (opd_ok hF x) hu
  · rename_i hu
    exact key _ fun hd φ F h a w hF hs => lenT_ok (t := t) rfl rfl hs (opd_ok hF x) hu
  · rename_i k e hu
    exact key _ fun hd φ F h a w hF hs => ⟨φ, _, w, by simp [Builtin.len_, run_underlying hu, goInt], St.refl _ _, hs, VR.i' _ _ _⟩
  · exact noC_ok _
def appC (P : Program) (env : Env) (t t2 : TypeId) (rs rx : Rd) : OpC := match P.underlying t with
  | some (.slice e) => match tyz P env e with
    | some y => ite' (Bool.and (Nat.ble 1 y.size) (Bool.and (Nat.ble 1 y.bytes) (Nat.beq y.z.cells.size y.size))) (match P.underlying t2 with
      | some (.int _) => ⟨fun _ F h => elN (rx.get F) (.no 301) fun m => ite' (Bool.and (Nat.ble (m * y.bytes) 140737488355328) (Nat.ble m 9223372036854775807)) (appendR e y.size y.bytes h (rs.get F) m (repT m y.zt)) (.no 302)⟩
      | some _ => ⟨fun _ F h => match elemsT y.size h (rx.get F) with
        | some (m, u) => appendR e y.size y.bytes h (rs.get F) m u
        | none => .no 303⟩
      | none => noC 304) (noC 305)
    | none => noC 306
  | _ => noC 307
theorem appC_ok (he : EnvOK P env) {cl : Call} {t t2 : TypeId} {s x : Operand} (ho : o.op = .call cl) (hc : cl.callee = .builtin .append) (hx : cl.args = #[s, x]) (ht : cl.argTypes = #[t, t2]) : PuC P W0 big n o (appC P env t t2 (opd big n s) (opd big n x)) := by
  have key : ∀ c : OpC, (∀ hd φ F h a w, RelM φ big n F a → Sm W0 φ h w → RunOK P W0 φ h w (Builtin.append_ #[t, t2] 0 #[a.eval s, a.eval x]) (c.run hd F h)) → PuC P W0 big n o c := fun c hc' =>
    PuC.builtin ho hc (fun args => Builtin.append_ #[t, t2] 0 args) (fun ty consts args => by rw [ht]; rfl) fun hd φ F h a w hF hs => by rw [hx]; rw [List.map_toArray]; exact hc' hd φ F h a w hF hs
  unfold appC
  split
  · rename_i e hu
    split
    · rename_i y hy
      obtain ⟨h1, h2⟩ := tyz_ok he hy
      refine ite_cases (Q := PuC P W0 big n o) (fun hb => ?_) (fun _ => noC_ok _)
      simp only [Bool.and_eq_true] at hb
      have b1 := Nat.le_of_ble_eq_true hb.1
      have b2 := Nat.le_of_ble_eq_true hb.2.1
      have b3 := Nat.eq_of_beq_eq_true hb.2.2
      split
      · rename_i k hu2
        refine key _ fun hd φ F h a w hF hs => elN_cases (Q := RunOK P W0 φ h w _) (opd_ok hF x) trivial fun kd m hm => ?_
        refine ite_cases (Q := RunOK P W0 φ h w _) (fun hq => ?_) (fun _ => trivial)
        simp only [Bool.and_eq_true] at hq
        rw [hm]
        exact append_ok hs (opd_ok hF s) b3 b1 (AppP.zeros (ty := 0) hu hu2 h1 b3 b1 b2 (Nat.le_of_ble_eq_true hq.1) (Nat.le_of_ble_eq_true hq.2)) (repT_ok (h2.rel φ) m) (by rw [reps_length]; simp [b3]) (reps_ok h2.ok m)
      · rename_i d hnk hu2
        refine key _ fun hd φ F h a w hF hs => ?_
        show RunOK P W0 φ h w _ (match elemsT y.size h ((opd big n x).get F) with
          | some (m, u) => appendR e y.size y.bytes h ((opd big n s).get F) m u
          | none => .no 303)
        split
        · rename_i m u hel
          obtain ⟨vs, E⟩ := elems_run (P := P) hs hel (opd_ok hF x)
          exact append_ok hs (opd_ok hF s) b3 b1 (AppP.elems (ty := 0) (e2 := 0) hu ⟨d, hu2, fun k hk => hnk k hk⟩ h1 b2 E) E.rel E.size E.ok
        · trivial
      · exact noC_ok _
    · exact noC_ok _
  · exact noC_ok _
def copyC (P : Program) (t : TypeId) (rx ry : Rd) : OpC := match P.underlying t with
  | some (.slice e) => match tyd P e with
    | some (sz, _, _) => ite' (Nat.ble 1 sz) ⟨fun _ F h => copyV sz (rx.get F) (ry.get F) h⟩ (noC 308)
    | none => noC 309
  | _ => noC 310
theorem copyC_ok {cl : Call} {t t2 : TypeId} {x y : Operand} (ho : o.op = .call cl) (hc : cl.callee = .builtin .copy) (hx : cl.args = #[x, y]) (ht : cl.argTypes = #[t, t2]) : PuC P W0 big n o (copyC P t (opd big n x) (opd big n y)) := by
  unfold copyC
  split
  · rename_i e hu
    split
    · rename_i sz b z hty
      refine ite_cases (Q := PuC P W0 big n o) (fun hb => ?_) (fun _ => noC_ok _)
      exact PuC.builtin ho hc (fun args => Builtin.copy_ #[t, t2] 0 args) (fun ty consts args => by rw [ht]; rfl) fun hd φ F h a w hF hs => by
        rw [hx, List.map_toArray]; exact copyV_ok (t2 := t2) (ty := 0) hs (opd_ok hF x) (opd_ok hF y) hu (tyd_inf hty) (Nat.le_of_ble_eq_true hb)
    · exact noC_ok _
  · exact noC_ok _
def clearC (P : Program) (env : Env) (t : TypeId) (rx : Rd) : OpC := match P.underlying t with
  | some (.slice e) => match tyz P env e with
    | some y => ite' (Bool.and (Nat.ble 1 y.size) (Nat.beq y.z.cells.size y.size)) ⟨fun _ F h => clearV y.size y.zt (rx.get F) h⟩ (noC 311)
    | none => noC 312
  | _ => noC 313
theorem clearC_ok (he : EnvOK P env) {cl : Call} {t : TypeId} {x : Operand} (ho : o.op = .call cl) (hc : cl.callee = .builtin .clear) (hx : cl.args = #[x]) (ht : cl.argTypes = #[t]) : PuC P W0 big n o (clearC P env t (opd big n x)) := by
  unfold clearC
  split
  · rename_i e hu
    split
    · rename_i y hy
      obtain ⟨h1, h2⟩ := tyz_ok he hy
      refine ite_cases (Q := PuC P W0 big n o) (fun hb => ?_) (fun _ => noC_ok _)
      simp only [Bool.and_eq_true] at hb
      exact PuC.builtin ho hc (fun args => Builtin.clear_ #[t] 0 args) (fun ty consts args => by rw [ht]; rfl) fun hd φ F h a w hF hs => by
        rw [hx, List.map_toArray]; exact clearV_ok (ty := 0) hs (opd_ok hF x) hu h1 (Nat.eq_of_beq_eq_true hb.2) (Nat.le_of_ble_eq_true hb.1) h2
    · exact noC_ok _
  · exact noC_ok _
def mmC (mx : Bool) (rx ry : Rd) : OpC := ⟨fun _ F h => mmV mx (rx.get F) (ry.get F) h⟩
theorem maxC_ok {cl : Call} {x y : Operand} (ho : o.op = .call cl) (hc : cl.callee = .builtin .max) (hx : cl.args = #[x, y]) : PuC P W0 big n o (mmC true (opd big n x) (opd big n y)) :=
  PuC.builtin ho hc (fun args => Builtin.max_ cl.argTypes 0 args) (fun ty consts args => rfl) fun hd φ F h a w hF hs => by
    rw [hx, List.map_toArray]; exact mmV_ok (mx := true) (ts := cl.argTypes) (ty := 0) hs (opd_ok hF x) (opd_ok hF y)
theorem minC_ok {cl : Call} {x y : Operand} (ho : o.op = .call cl) (hc : cl.callee = .builtin .min) (hx : cl.args = #[x, y]) : PuC P W0 big n o (mmC false (opd big n x) (opd big n y)) :=
  PuC.builtin ho hc (fun args => Builtin.min_ cl.argTypes 0 args) (fun ty consts args => rfl) fun hd φ F h a w hF hs => by
    rw [hx, List.map_toArray]; exact mmV_ok (mx := false) (ts := cl.argTypes) (ty := 0) hs (opd_ok hF x) (opd_ok hF y)
def keyIn (k : Int) (es : List (Int × V × Nat)) : Bool := es.any fun e => keyEq k e.1
def nodupK : List (Int × V × Nat) → Bool
  | [] => true
  | e :: es => ite' (keyIn e.1 es) false (nodupK es)
def vdel (k : Int) : List (Int × V × Nat) → List (Int × V × Nat)
  | [] => []
  | e :: es => ite' (keyEq e.1 k) (vdel k es) (e :: vdel k es)
theorem keyIn_ok {k : Int} : ∀ {es : List (Int × V × Nat)} {l : Ent}, entR φ es l → keyIn k es = false → k ∉ l.map (·.1)
  | [], l, h, _ => by have h : l = [] := h; subst h; simp
  | (k1, v, m) :: es, l, h, hk => by
    obtain ⟨y, ys, rfl, _, h2⟩ := h
    simp only [keyIn, List.any_cons, Bool.or_eq_false_iff] at hk
    simp only [List.map_cons, List.mem_cons, not_or]
    exact ⟨fun e => (by rw [(keyEq_iff _ _).2 e] at hk; cases hk.1), keyIn_ok h2 hk.2⟩
theorem nodupK_ok : ∀ {es : List (Int × V × Nat)} {l : Ent}, entR φ es l → nodupK es = true → (l.map (·.1)).Nodup
  | [], l, h, _ => by have h : l = [] := h; subst h; simp
  | (k1, v, m) :: es, l, h, hk => by
    obtain ⟨y, ys, rfl, _, h2⟩ := h
    have hk : ite' (keyIn k1 es) false (nodupK es) = true := hk
    cases hq : keyIn k1 es with
    | true => rw [hq] at hk; cases hk
    | false =>
      rw [hq] at hk
      simp only [List.map_cons, List.nodup_cons]
      exact ⟨keyIn_ok h2 hq, nodupK_ok h2 hk⟩
theorem vdel_ok {k : Int} : ∀ {es : List (Int × V × Nat)} {l : Ent}, entR φ es l → entR φ (vdel k es) (l.filter fun e => !decide (e.1 = k))
  | [], l, h => by have h : l = [] := h; subst h; rfl
  | (k1, v, m) :: es, l, h => by
    obtain ⟨y, ys, rfl, h1, h2⟩ := h
    show entR φ (ite' (keyEq k1 k) (vdel k es) ((k1, v, m) :: vdel k es)) _
    cases hq : keyEq k1 k with
    | true =>
      show entR φ (vdel k es) _
      simpa [(keyEq_iff _ _).1 hq] using vdel_ok (k := k) h2
    | false =>
      show entR φ ((k1, v, m) :: vdel k es) _
      have : ¬ k1 = k := fun e => by rw [(keyEq_iff _ _).2 e] at hq; cases hq
      simp only [this, decide_false, Bool.not_false, List.filter_cons_of_pos]
      exact ⟨y, _, rfl, h1, vdel_ok h2⟩
def delM (kd : IntKind) (x y : V) (h : Hp) : Ox := elM x (.no 314) fun a => elI y (.no 315) fun k z => match PT.get a h.mem with
  | some (.mp k' es ck) => ite' (Bool.and (Bool.and (Nat.beq (kn k) (kn kd)) (Nat.beq (kn k') (kn kd))) (nodupK es)) (.val (.tu []) ⟨h.next, PT.set a (some (.mp k' (vdel z es) ck)) h.mem⟩) (.no 316)
  | _ => .no 317
theorem delM_ok {t t2 kt et ty : TypeId} {kd : IntKind} {x y : V} {xv yv : Value} (hs : Sm W0 φ h w) (hx : VR φ x xv) (hy : VR φ y yv) (hu : P.underlying t = some (.map kt et)) (hk : P.underlying kt = some (.int kd)) :
    RunOK P W0 φ h w (Builtin.delete_ #[t, t2] ty #[xv, yv]) (delM kd x y h) := by
  cases x <;> try trivial
  rename_i a
  cases y <;> try trivial
  rename_i k z
  have := hy.i
  subst this
  show RunOK P W0 φ h w _ (match PT.get a h.mem with
    | some (.mp k' es ck) => ite' (Bool.and (Bool.and (Nat.beq (kn k) (kn kd)) (Nat.beq (kn k') (kn kd))) (nodupK es)) (.val (.tu []) ⟨h.next, PT.set a (some (.mp k' (vdel z es) ck)) h.mem⟩) (.no 316)
    | _ => .no 317)
  split
  · rename_i k' es ck hg
    refine ite_cases (Q := RunOK P W0 φ h w _) (fun hb => ?_) (fun _ => trivial)
    simp only [Bool.and_eq_true] at hb
    obtain rfl := kn_inj hb.1.1
    obtain rfl := kn_inj hb.1.2
    unfold VR at hx
    obtain ⟨B, ha, rfl⟩ := hx
    obtain ⟨es', e1, e2⟩ := (hs.own _ _ _ hg ha).2
    have hrun := run_delete_int (P := P) (w := w) (k0 := z) (ty := ty) hu hk e2 (nodupK_ok e1 hb.2) t2
    have hlt := (hs.own _ _ _ hg ha).2.lt
    have hB := (hs.own _ _ _ hg ha).1
    obtain ⟨k1, k2⟩ := hs.change (w' := { w with heap := w.heap.setIfInBounds B.b (.map ((es'.filter fun e => !decide (e.1 = z)).map (entV k')).toArray ck) }) (o' := .mp k' (vdel z es) ck) hg ha
      (hs.below.trans ⟨rfl, rfl, rfl, by simp, fun j hj => by show (w.heap.setIfInBounds _ _)[j]? = _; rw [Array.getElem?_setIfInBounds_ne (by omega)]⟩)
      (fun i _ hne => by show (w.heap.setIfInBounds _ _)[i]? = _; rw [Array.getElem?_setIfInBounds_ne (Ne.symm hne)])
      ⟨_, vdel_ok e1, by show (w.heap.setIfInBounds _ _)[B.b]? = _; simp [hlt]⟩
    exact ⟨φ, _, _, hrun, k2, k1, VR.tu0 _⟩
  · trivial
def delC (P : Program) (t : TypeId) (rx ry : Rd) : OpC := match P.underlying t with
  | some (.map kt _) => match P.underlying kt with
    | some (.int kd) => ⟨fun _ F h => delM kd (rx.get F) (ry.get F) h⟩
    | _ => noC 318
  | _ => noC 319
theorem delC_ok {cl : Call} {t t2 : TypeId} {x y : Operand} (ho : o.op = .call cl) (hc : cl.callee = .builtin .delete) (hx : cl.args = #[x, y]) (ht : cl.argTypes = #[t, t2]) : PuC P W0 big n o (delC P t (opd big n x) (opd big n y)) := by
  unfold delC
  split
  · rename_i kt et hu
    split
    · rename_i kd hk
      exact PuC.builtin ho hc (fun args => Builtin.delete_ #[t, t2] 0 args) (fun ty consts args => by rw [ht]; rfl) fun hd φ F h a w hF hs => by
        rw [hx, List.map_toArray]; exact delM_ok (t2 := t2) (ty := 0) hs (opd_ok hF x) (opd_ok hF y) hu hk
    · exact noC_ok _
  · exact noC_ok _
def builtinC (P : Program) (env : Env) (big : Bool) (n : Nat → Bool) (b : Builtin) (args : List Operand) (ts : List TypeId) : OpC :=
  match b, args, ts with
  | .len, [x], [t] => lenC P t (opd big n x)
  | .append, [s, x], [t, t2] => appC P env t t2 (opd big n s) (opd big n x)
  | .copy, [x, y], [t, _] => copyC P t (opd big n x) (opd big n y)
  | .clear, [x], [t] => clearC P env t (opd big n x)
  | .max, [x, y], _ => mmC true (opd big n x) (opd big n y)
  | .min, [x, y], _ => mmC false (opd big n x) (opd big n y)
  | .delete, [x, y], [t, _] => delC P t (opd big n x) (opd big n y)
  | _, _, _ => noC 320
theorem arr {α : Type} {a : Array α} {l : List α} (h : a.toList = l) : a = l.toArray := by apply Array.ext'; simpa using h
theorem builtinC_ok (he : EnvOK P env) {cl : Call} {b : Builtin} (ho : o.op = .call cl) (hc : cl.callee = .builtin b) : PuC P W0 big n o (builtinC P env big n b cl.args.toList cl.argTypes.toList) := by
  unfold builtinC
  split
  · rename_i h1 h2; exact lenC_ok ho hc (arr h1) (arr h2)
  · rename_i h1 h2; exact appC_ok he ho hc (arr h1) (arr h2)
  · rename_i h1 h2; exact copyC_ok ho hc (arr h1) (arr h2)
  · rename_i h1 h2; exact clearC_ok he ho hc (arr h1) (arr h2)
  · rename_i h1; exact maxC_ok ho hc (arr h1)
  · rename_i h1; exact minC_ok ho hc (arr h1)
  · rename_i h1 h2; exact delC_ok ho hc (arr h1) (arr h2)
  · exact noC_ok _
end
end
end Go.Ev
/-
  An operation made ready to run: calls, panics; all of them. No program in sight.
-/
namespace Go.Ev
open Go Go.SL Go.RowKit
noncomputable section
section
variable {P : Program} {W0 w : World} {φ : Phi} {h : Hp} {o : Oper} {a : Act} {big : Bool} {n : Nat → Bool} {F : R} {env : Env} {hd : Hd}
def OkC (P : Program) (W0 : World) (big : Bool) (n : Nat → Bool) (env : Env) (o : Oper) (c : OpC) : Prop :=
  ∀ hd, HdOK P W0 hd → ∀ φ F h a w, RelM φ big n F a → Sm W0 φ h w → OpOK P W0 o φ h a w (c.run hd F h)
theorem PuC.ok {c : OpC} (hc : PuC P W0 big n o c) : OkC P W0 big n env o c := fun hd _ φ F h a w hF hs => OpOK.of (hc hd φ F h a w hF hs)

/-! ### Calls -/
def noSkip (x : Ox) : Ox := match x with | .skip _ => .no 400 | x => x
theorem OpOK.enter {x : Ox} {f : FuncId} {args : Array Value} (he : (execOp a.eval o).run P w = .ok (.enter f args) w) (hc : CallOK P W0 φ h w f args x) : OpOK P W0 o φ h a w (noSkip x) := by
  cases x with
  | val v h' =>
    intro next Q k
    unfold Oper.wp
    rw [he, Oper.upon_enter]
    refine Calls.mono hc fun e w' hq => ?_
    obtain ⟨φ', v', rfl, h1, h2, h3⟩ := hq
    exact k φ' v' w' h1 h2 h3
  | pan v h' =>
    intro next Q k
    unfold Oper.wp
    rw [he, Oper.upon_enter]
    refine Calls.mono hc fun e w' hq => ?_
    obtain ⟨φ', v', rfl, h1, h2, h3⟩ := hq
    exact k φ' v' w' h1 h2 h3
  | skip h' => trivial
  | no c => trivial
theorem LR.append : ∀ {xs ys : List V} {us vs : List Value}, LR φ xs us → LR φ ys vs → LR φ (xs ++ ys) (us ++ vs)
  | [], ys, us, vs, h1, h2 => by unfold LR at h1; subst h1; exact h2
  | x :: xs, ys, us, vs, h1, h2 => by
    unfold LR at h1
    obtain ⟨v, vs', rfl, h3, h4⟩ := h1
    show LR φ (x :: (xs ++ ys)) (v :: (vs' ++ vs))
    unfold LR
    exact ⟨_, _, rfl, h3, h4.append h2⟩
def entersB (P : Program) (f : FuncId) : Bool := match P.funcs[f]? with
  | some fn => Bool.and (Bool.not (fn.name == "runtime.NumGoroutine")) (Bool.not fn.body.isNone)
  | none => false
theorem entersB_ok {f : FuncId} (h : entersB P f = true) : Enters P f := by
  unfold entersB at h
  split at h
  · rename_i fn hf
    simp only [Bool.and_eq_true, Bool.not_eq_true'] at h
    exact Enters.of hf h.1 h.2
  · cases h
def methB (P : Program) (name : String) (t : TypeId) : Option FuncId := match P.underlying t with
  | some (.pointer _) => match P.info? t with
    | some i => match i.methods.find? (·.name == name) with
      | some m => ite' (Nat.beq m.path.toList.length 0) (match m.func with
        | some (f, true) => ite' (entersB P f) (some f) none
        | _ => none) none
      | none => none
    | none => none
  | _ => none
theorem methB_ok {name : String} {t : TypeId} {f : FuncId} (h : methB P name t = some f) : MethP P t name f ∧ Enters P f := by
  unfold methB at h
  split at h
  · rename_i e hu
    split at h
    · rename_i i hi
      split at h
      · rename_i m hm
        cases hb : Nat.beq m.path.toList.length 0 with
        | false => rw [hb] at h; cases h
        | true =>
          rw [hb] at h
          change (match m.func with
            | some (f, true) => ite' (entersB P f) (some f) none
            | _ => none) = some f at h
          split at h
          · rename_i f' hf
            cases he : entersB P f' with
            | false => rw [he] at h; cases h
            | true =>
              rw [he] at h
              cases h
              exact ⟨⟨i, m, e, hi, hm, List.eq_nil_of_length_eq_zero (Nat.eq_of_beq_eq_true hb), hf, hu⟩, entersB_ok he⟩
          · cases h
      · cases h
    · cases h
  · cases h
def optV (x : Option V) (h : Hp) : Ox := match x with | some v => .val v h | none => .no 402
def callFC (P : Program) (big : Bool) (n : Nat → Bool) (env : Env) (f : FuncId) (args : List Operand) : OpC := match env.ext f with
  | some g => ⟨fun _ F h => optV (g (opds big n args F)) h⟩
  | none => ite' (entersB P f) ⟨fun hd F h => noSkip (hd f (opds big n args F) h)⟩ (noC 403)
theorem arrOf (x : Array Value) (l : List Value) (h : x.toList = l) : x = l.toArray := by apply Array.ext'; simpa using h
theorem callFC_ok (he : EnvOK P env) {c : Call} {f : FuncId} (ho : o.op = .call c) (hc : c.callee = .value (.func f)) : OkC P W0 big n env o (callFC P big n env f c.args.toList) := by
  have hargs : ∀ a : Act, c.args.map a.eval = (c.args.toList.map a.eval).toArray := fun a => by apply Array.ext'; simp
  unfold callFC
  split
  · rename_i g hg
    intro hd _ φ F h a w hF hs
    refine OpOK.of ?_
    show OpRun P W0 φ h w _ (optV (g (opds big n c.args.toList F)) h)
    cases hq : g (opds big n c.args.toList F) with
    | none => trivial
    | some v =>
      obtain ⟨v', h1, h2⟩ := he.ext f g hg φ _ _ v (opds_ok hF c.args.toList) hq
      refine OpRun.pure hs (v' := v') ?_ h1
      have := h2 w
      rw [← hargs] at this
      simp [execOp, ho, resolve, hc, Deferred.ofValue, Act.eval, invoke, this]
  · refine ite_cases (Q := OkC P W0 big n env o) (fun hb => ?_) (fun _ => (noC_ok _).ok)
    intro hd hhd φ F h a w hF hs
    refine OpOK.enter (f := f) (args := (c.args.toList.map a.eval).toArray) ?_ (hhd f _ h φ w _ hs (opds_ok hF c.args.toList))
    have := entersB_ok hb (c.args.toList.map a.eval).toArray w
    rw [← hargs] at this ⊢
    simp [execOp, ho, resolve, hc, Deferred.ofValue, Act.eval, invoke, this]
def callVC (P : Program) (big : Bool) (n : Nat → Bool) (rx : Rd) (args : List Operand) : OpC :=
  ⟨fun hd F h => elFn (rx.get F) (.no 404) fun f fs cs => ite' (entersB P f) (noSkip (hd f (fs ++ (opds big n args F ++ cs)) h)) (.no 405)⟩
theorem callVC_ok {c : Call} {x : Operand} (ho : o.op = .call c) (hc : c.callee = .value x) : OkC P W0 big n env o (callVC P big n (opd big n x) c.args.toList) := by
  intro hd hhd φ F h a w hF hs
  have hx := opd_ok hF x
  show OpOK P W0 o φ h a w (elFn ((opd big n x).get F) (.no 404) fun f fs cs => ite' (entersB P f) (noSkip (hd f (fs ++ (opds big n c.args.toList F ++ cs)) h)) (.no 405))
  generalize (opd big n x).get F = xv at hx
  cases xv <;> try trivial
  rename_i f fs cs
  refine ite_cases (Q := OpOK P W0 o φ h a w) (fun hb => ?_) (fun _ => trivial)
  unfold VR at hx
  obtain ⟨ys, zs, e, h1, h2⟩ := hx
  refine OpOK.enter (f := f) (args := (ys.toList ++ (c.args.toList.map a.eval ++ zs.toList)).toArray) ?_ (hhd f _ h φ w _ hs (h1.append ((opds_ok hF c.args.toList).append h2)))
  have := entersB_ok hb (ys.toList ++ (c.args.toList.map a.eval ++ zs.toList)).toArray w
  have hargs : (ys.toList ++ (c.args.toList.map a.eval ++ zs.toList)).toArray = ys ++ c.args.map a.eval ++ zs := by apply Array.ext'; simp
  rw [hargs] at this ⊢
  simp only [execOp, ho, resolve, hc, Deferred.ofValue, e, invoke, Sem.run_bind, Sem.run_pure, Result.andThen_ok]
  exact this
def callIC (P : Program) (big : Bool) (n : Nat → Bool) (name : String) (rx : Rd) (args : List Operand) : OpC :=
  ⟨fun hd F h => elIc (rx.get F) (.no 406) fun t v => match methB P name t with
    | some f => noSkip (hd f (v :: opds big n args F) h)
    | none => .no 407⟩
theorem callIC_ok {c : Call} {x : Operand} {name : String} (ho : o.op = .call c) (hc : c.callee = .invoke x name) : OkC P W0 big n env o (callIC P big n name (opd big n x) c.args.toList) := by
  intro hd hhd φ F h a w hF hs
  have hx := opd_ok hF x
  show OpOK P W0 o φ h a w (elIc ((opd big n x).get F) (.no 406) fun t v => match methB P name t with
    | some f => noSkip (hd f (v :: opds big n c.args.toList F) h)
    | none => .no 407)
  generalize (opd big n x).get F = xv at hx
  cases xv <;> try trivial
  rename_i t v
  show OpOK P W0 o φ h a w (match methB P name t with
    | some f => noSkip (hd f (v :: opds big n c.args.toList F) h)
    | none => .no 407)
  split
  · rename_i f hm
    obtain ⟨h1, h2⟩ := methB_ok hm
    unfold VR at hx
    obtain ⟨y, e, hy⟩ := hx
    refine OpOK.enter (f := f) (args := (y :: c.args.toList.map a.eval).toArray) ?_ (hhd f _ h φ w _ hs (by unfold LR; exact ⟨_, _, rfl, hy, opds_ok hF c.args.toList⟩))
    have hpos : 0 < Made.depth := by decide
    obtain ⟨q, hq⟩ : ∃ q, P.types.size + Made.depth = q + 1 := ⟨P.types.size + Made.depth - 1, by omega⟩
    have hargs' : (y :: c.args.toList.map a.eval).toArray = #[y] ++ c.args.map a.eval := by apply Array.ext'; simp
    have he' := h2 (y :: c.args.toList.map a.eval).toArray w
    rw [hargs'] at he' ⊢
    simp only [execOp, ho, resolve, hc, e, Sem.run_bind, Sem.run_pure, Result.andThen_ok, invoke]
    have e0 : (#[Value.iface t y] ++ c.args.map a.eval)[0]? = some (.iface t y) := by rw [Array.getElem?_append_left (by simp)]; rfl
    have e1 : (#[Value.iface t y] ++ c.args.map a.eval).extract 1 (#[Value.iface t y] ++ c.args.map a.eval).size = c.args.map a.eval := by
      apply Array.ext'
      simp only [Array.toList_extract, Array.toList_append, Array.toList_map, Array.size_append, Array.size_map, List.size_toArray, List.length_cons, List.length_nil, List.extract_eq_take_drop]
      simp
      exact List.take_of_length_le (by simp)
    simp only [e0, e1, callMethod, Sem.run_bind, run_program, Result.andThen_ok, hq, h1.run]
    exact he'
  · trivial
/-! ### A panic -/
def panicC (rx : Rd) : OpC := ⟨fun _ F h => elIc (rx.get F) (.no 408) fun t v => .pan (.ic t v) h⟩
theorem panicC_ok {x : Operand} (ho : o.op = .panic x) : OkC P W0 big n env o (panicC (opd big n x)) := by
  intro hd _ φ F h a w hF hs
  refine OpOK.of ?_
  have hx := opd_ok hF x
  show OpRun P W0 φ h w _ (elIc ((opd big n x).get F) (.no 408) fun t v => .pan (.ic t v) h)
  generalize (opd big n x).get F = xv at hx
  cases xv <;> try trivial
  rename_i t v
  have hx' := hx
  unfold VR at hx
  obtain ⟨y, e, hy⟩ := hx
  exact ⟨φ, _, w, by simp [execOp, ho, e, Instr.panic], St.refl _ _, hs, e ▸ hx'⟩
end
end
end Go.Ev
/-
  Any operation made ready to run. No program in sight.
-/
namespace Go.Ev
open Go Go.SL Go.RowKit
noncomputable section
section
variable {P : Program} {W0 : World} {o : Oper} {big : Bool} {n : Nat → Bool} {env : Env}
def calleeC (P : Program) (env : Env) (big : Bool) (n : Nat → Bool) (args : List Operand) (ts : List TypeId) (c : Callee) : OpC := match c with
  | .builtin b => builtinC P env big n b args ts
  | .invoke x name => callIC P big n name (opd big n x) args
  | .value (.func f) => callFC P big n env f args
  | .value x => callVC P big n (opd big n x) args
theorem calleeC_ok (he : EnvOK P env) {c : Call} (ho : o.op = .call c) : OkC P W0 big n env o (calleeC P env big n c.args.toList c.argTypes.toList c.callee) := by
  unfold calleeC
  split
  · rename_i b hc; exact (builtinC_ok he ho hc).ok
  · rename_i x name hc; exact callIC_ok ho hc
  · rename_i f hc; exact callFC_ok he ho hc
  · rename_i x _ hc; exact callVC_ok ho hc
def opC (P : Program) (env : Env) (big : Bool) (n : Nat → Bool) (x : Op) : OpC := match x with
  | .move x => moveC (opd big n x)
  | .assign x => moveC (opd big n x)
  | .pick c x y => pickC (opd big n c) (opd big n x) (opd big n y)
  | .alloc t => allocC P env t
  | .box t x => boxC t (opd big n x)
  | .build t ps => buildC P env big n t ps
  | .buildSlice t len ps => buildSC P env big n t len ps
  | .insert t x y v => setMC P t (opd big n x) (opd big n y) (opd big n v)
  | .load t x => loadC P t (opd big n x)
  | .store t x y => storeC P t (opd big n x) (opd big n y)
  | .nilCheck x => nilC (opd big n x)
  | .binOp op t x y _ => binC P op t (isConst y) (opd big n x) (opd big n y)
  | .unOp op _ x => unC op (opd big n x)
  | .convert s t x => convC P s t (opd big n x)
  | .makeInterface t x => ifaceC P t (opd big n x)
  | .makeFunc fn fs cs => funcC big n fn fs.toList cs.toList
  | .makeMap t r => makeMC P t r
  | .makeSlice t x y => makeC P env t (opd big n x) (opd big n y)
  | .slice t x lo hi mx => sliceC P big n t (opd big n x) lo hi mx
  | .fieldAddr t x i => fieldAC P t i (opd big n x)
  | .field t x i => fieldC P t i (opd big n x)
  | .indexAddr t x y => indexAC P t (opd big n x) (opd big n y)
  | .index t x y => indexC P t (opd big n x) (opd big n y)
  | .lookup t x y ok => lookC P t ok (opd big n x) (opd big n y)
  | .mapUpdate t x y v => setMC P t (opd big n x) (opd big n y) (opd big n v)
  | .extract x i => extrC i (opd big n x)
  | .call c => calleeC P env big n c.args.toList c.argTypes.toList c.callee
  | .panic x => panicC (opd big n x)
  | _ => noC 410
theorem opC_ok (he : EnvOK P env) : OkC P W0 big n env o (opC P env big n o.op) := by
  unfold opC
  split
  · rename_i ho; exact (moveC_ok (.inl ho)).ok
  · rename_i ho; exact (moveC_ok (.inr ho)).ok
  · rename_i ho; exact (pickC_ok ho).ok
  · rename_i ho; exact (allocC_ok he ho).ok
  · rename_i ho; exact (boxC_ok ho).ok
  · rename_i ho; exact (buildC_ok he ho).ok
  · rename_i ho; exact (buildSC_ok he ho).ok
  · rename_i ho; exact (setMC_ok (.inr ho)).ok
  · rename_i ho; exact (loadC_ok ho).ok
  · rename_i ho; exact (storeC_ok ho).ok
  · rename_i ho; exact (nilC_ok ho).ok
  · rename_i ho; exact (binC_ok ho).ok
  · rename_i ho; exact (unC_ok ho).ok
  · rename_i ho; exact (convC_ok ho).ok
  · rename_i ho; exact (ifaceC_ok ho).ok
  · rename_i ho; exact (funcC_ok ho).ok
  · rename_i ho; exact (makeMC_ok ho).ok
  · rename_i ho; exact (makeC_ok he ho).ok
  · rename_i ho; exact (sliceC_ok ho).ok
  · rename_i ho; exact (fieldAC_ok ho).ok
  · rename_i ho; exact (fieldC_ok ho).ok
  · rename_i ho; exact (indexAC_ok ho).ok
  · rename_i ho; exact (indexC_ok ho).ok
  · rename_i ho; exact (lookC_ok ho).ok
  · rename_i ho; exact (setMC_ok (.inl ho)).ok
  · rename_i ho; exact (extrC_ok ho).ok
  · rename_i ho; exact calleeC_ok he ho
  · rename_i ho; exact panicC_ok ho
  · exact (noC_ok _).ok
end
end
end Go.Ev
/-
  Regions, code, functions made ready to run. No program in sight.
-/
namespace Go.Ev
open Go Go.SL Go.RowKit
noncomputable section
inductive Rx where
  | go (F : R) (h : Hp) | pan (v : V) (h : Hp) | no (c : Nat)
structure StepC where
  run : Hd → R → Hp → Rx
def noS (k : Nat) : StepC := ⟨fun _ _ _ => .no k⟩
def wrD (big : Bool) (n : Nat) (dst : Option Nat) : Option Wr := match dst with
  | none => some ⟨fun _ F => F⟩
  | some d => ite' (Nat.ble (Nat.succ d) n) (some (wrT big d)) none
def onOx (x : Ox) (k : V → Hp → Rx) : Rx := Ox.rec (motive := fun _ => Rx) k (fun h => k (.tu []) h) (fun v h' => .pan v h') (fun k => .no k) x
def bodyC (c : OpC) (wr : Wr) : StepC := ⟨fun hd F h => onOx (c.run hd F h) fun v h' => .go (wr.put v F) h'⟩
def beqB (a b : Bool) : Bool := Bool.rec (Bool.rec true false b) (Bool.rec false true b) a
def stepC (P : Program) (env : Env) (big : Bool) (n : Nat) (M : Nat → Bool) (ops : Array Oper) (o : Oper) : StepC := match wrD big n o.dst with
  | none => noS 500
  | some wr => match o.guard with
    | none => bodyC (opC P env big M o.op) wr
    | some (j, b) => match (ops[j]?).bind (·.dst) with
      | some t => ite' (M t) ⟨fun hd F h => elB ((rdT big t).get F) (elTu ((rdT big t).get F) (.no 501) fun _ => .go (wr.put (.tu []) F) h) fun b' => ite' (beqB b b') ((bodyC (opC P env big M o.op) wr).run hd F h) (.go (wr.put (.tu []) F) h)⟩ (noS 502)
      | none => noS 503
def nilS : StepC := ⟨fun _ F h => .go F h⟩
def consS (x y : StepC) : StepC := ⟨fun hd F h => Rx.rec (motive := fun _ => Rx) (fun F h => y.run hd F h) (fun v h => .pan v h) (fun k => .no k) (x.run hd F h)⟩
def stepsC (P : Program) (env : Env) (big : Bool) (n : Nat) (ops : Array Oper) (l : List Oper) : StepC :=
  List.rec (motive := fun _ => StepC) nilS (fun o _ ih => consS (stepC P env big n (fullM n) ops o) ih) l
inductive Cx where
  | go (F : R) (h : Hp) | ex (id : Nat) (F : R) (h : Hp) | ret (F : R) (h : Hp) | pan (v : V) (h : Hp) | no (c : Nat)
structure CodeC where
  run : Hd → R → Hp → Cx
def regC (s : StepC) : CodeC := ⟨fun hd F h => Rx.rec (motive := fun _ => Cx) (fun F h => .go F h) (fun v h => .pan v h) (fun k => .no k) (s.run hd F h)⟩
def thenC (x y : CodeC) : CodeC := ⟨fun hd F h => Cx.rec (motive := fun _ => Cx) (fun F h => y.run hd F h) (fun id F h => .ex id F h) (fun F h => .ret F h) (fun v h => .pan v h) (fun k => .no k) (x.run hd F h)⟩
def condC (rc : Rd) (x y : CodeC) : CodeC := ⟨fun hd F h => elB (rc.get F) (.no 510) fun b => ite' b (x.run hd F h) (y.run hd F h)⟩
def blockC (id : Nat) (x : CodeC) : CodeC := ⟨fun hd F h => Cx.rec (motive := fun _ => Cx) (fun F h => .go F h) (fun id' F h => ite' (Nat.beq id' id) (.go F h) (.ex id' F h)) (fun F h => .ret F h) (fun v h => .pan v h) (fun k => .no k) (x.run hd F h)⟩
def twice (x : CodeC) (k : Nat) : CodeC := Nat.rec (motive := fun _ => CodeC) x (fun _ ih => thenC ih ih) k
def loopC (x : CodeC) : CodeC := thenC (twice x 24) ⟨fun _ _ _ => .no 511⟩
def codeC (P : Program) (env : Env) (dr : Bool → Nat → Array Oper → StepC) (big : Bool) (n : Nat) (c : Code) : CodeC :=
  Code.rec (motive := fun _ => CodeC) ⟨fun _ F h => .go F h⟩ (fun _ ops draw => regC (ite' draw (dr big n ops) (stepsC P env big n ops ops.toList))) (fun _ _ x y => thenC x y) (fun c _ _ x y => condC (opd big (fullM n) c) x y) (fun id _ x => blockC id x) (fun _ x => loopC x) (fun _ _ _ _ _ _ => ⟨fun _ _ _ => .no 520⟩) (fun id => ⟨fun _ F h => .ex id F h⟩) (fun _ _ => ⟨fun _ _ _ => .no 521⟩) (fun _ => ⟨fun _ F h => .go F h⟩) (fun _ => ⟨fun _ _ _ => .no 522⟩) ⟨fun _ F h => .ret F h⟩ (fun _ => ⟨fun _ _ _ => .no 523⟩) c
structure FnC where
  run : Hd → List V → Hp → Ox
def noF (k : Nat) : FnC := ⟨fun _ _ _ => .no k⟩
def fillA (big : Bool) (args : List V) : Nat → R :=
  List.rec (motive := fun _ => Nat → R) (fun _ => blank big) (fun v _ ih t => (wrT big t).put v (ih (Nat.succ t))) args
structure RvC where
  run : R → Hp → Ox
def rvC (P : Program) (big : Bool) (n : Nat) (r : ResultVar) : RvC := match r with
  | .tmp t => ⟨fun F h => .val ((opd big (fullM n) (.tmp t)).get F) h⟩
  | .cell a t => match P.underlying t with
    | some td => ite' (scalar td) ⟨fun F h => load1 ((opd big (fullM n) (.tmp a)).get F) h⟩ (match tyd P t with
      | some (sz, _, _) => ⟨fun F h => loadN sz ((opd big (fullM n) (.tmp a)).get F) h⟩
      | none => ⟨fun _ _ => .no 530⟩)
    | none => ⟨fun _ _ => .no 531⟩
/-- k of the value that comes -/
def onV (x : Ox) (k : V → Ox) : Ox := Ox.rec (motive := fun _ => Ox) (fun v _ => k v) (fun _ => .no 532) (fun _ _ => .no 533) (fun c => .no c) x
def retC (P : Program) (big : Bool) (n : Nat) (rs : List ResultVar) : RvC := match rs with
  | [] => ⟨fun _ h => .val (.tu []) h⟩
  | [r] => ⟨fun F h => onV ((rvC P big n r).run F h) fun v => .val v h⟩
  | [r, s] => ⟨fun F h => onV ((rvC P big n r).run F h) fun v => onV ((rvC P big n s).run F h) fun v2 => .val (.tu [v, v2]) h⟩
  | [r, s, t] => ⟨fun F h => onV ((rvC P big n r).run F h) fun v => onV ((rvC P big n s).run F h) fun v2 => onV ((rvC P big n t).run F h) fun x => .val (.tu [v, v2, x]) h⟩
  | _ => ⟨fun _ _ => .no 534⟩
def valO (x : Ox) : Ox := Ox.rec (motive := fun _ => Ox) (fun v h => .val v h) (fun _ => .no 535) (fun _ _ => .no 536) (fun c => .no c) x
/-- where it stopped -/
def tagN (f k : Nat) : Nat := ite' (Nat.blt k 1000) (Nat.add (Nat.mul 1000 (Nat.succ f)) k) k
def fnC (P : Program) (env : Env) (dr : Bool → Nat → Array Oper → StepC) (f : Nat) : FnC := match P.funcs[f]? with
  | some fn => match fn.body with
    | some c => ite' (Nat.ble fn.ntmps (lim (Nat.blt 64 fn.ntmps))) ⟨fun hd args h => ite' (Nat.ble args.length fn.ntmps) (Cx.rec (motive := fun _ => Ox)
        (fun F h => valO ((retC P (Nat.blt 64 fn.ntmps) fn.ntmps fn.results.toList).run F h))
        (fun _ _ _ => .no 540)
        (fun F h => valO ((retC P (Nat.blt 64 fn.ntmps) fn.ntmps fn.results.toList).run F h))
        (fun v h => .pan v h) (fun k => .no (tagN f k))
        ((codeC P env dr (Nat.blt 64 fn.ntmps) fn.ntmps c).run hd (fillA (Nat.blt 64 fn.ntmps) args 0) h)) (.no 541)⟩ (noF 542)
    | none => noF 543
  | none => noF 544
def runN (P : Program) (env : Env) (dr : Bool → Nat → Array Oper → StepC) (n : Nat) : Hd := Nat.rec (motive := fun _ => Hd) (fun _ _ _ => .no 550) (fun _ ih f args h => (fnC P env dr f).run ih args h) n
end
end Go.Ev
/-
  Regions and code made ready to run, sound. No program in sight.
-/
namespace Go.Ev
open Go Go.SL Go.RowKit
noncomputable section
section
variable {P : Program} {W0 w : World} {φ : Phi} {h : Hp} {o : Oper} {a : Act} {big : Bool} {n : Nat} {F : R} {env : Env} {ops : Array Oper} {D : List Deferred}
/-- what a piece of code comes to -/
def Post (W0 : World) (big : Bool) (n : Nat) (φ : Phi) (h : Hp) (D : List Deferred) : Cx → Exit → Act → World → Prop
  | .go F' h' => fun e a' w' => e = .normal ∧ ∃ φ', St φ φ' h h' ∧ Sm W0 φ' h' w' ∧ RelF φ' big n F' a' ∧ a'.defers = D
  | .ex id F' h' => fun e a' w' => e = .exit id ∧ ∃ φ', St φ φ' h h' ∧ Sm W0 φ' h' w' ∧ RelF φ' big n F' a' ∧ a'.defers = D
  | .ret F' h' => fun e a' w' => e = .ret ∧ ∃ φ', St φ φ' h h' ∧ Sm W0 φ' h' w' ∧ RelF φ' big n F' a' ∧ a'.defers = D
  | .pan v h' => fun e a' w' => ∃ φ' v', e = .panic [{ v := v', recovered := false }] ∧ St φ φ' h h' ∧ Sm W0 φ' h' w' ∧ VR φ' v v' ∧ a'.defers = D
  | .no _ => fun _ _ _ => True
theorem Post.from {φ1 : Phi} {h1 : Hp} (hst : St φ φ1 h h1) : ∀ {x : Cx} {e : Exit} {a : Act} {w : World}, Post W0 big n φ1 h1 D x e a w → Post W0 big n φ h D x e a w
  | .go _ _, _, _, _, ⟨h1, φ', h2, h3⟩ => ⟨h1, φ', hst.trans h2, h3⟩
  | .ex _ _ _, _, _, _, ⟨h1, φ', h2, h3⟩ => ⟨h1, φ', hst.trans h2, h3⟩
  | .ret _ _, _, _, _, ⟨h1, φ', h2, h3⟩ => ⟨h1, φ', hst.trans h2, h3⟩
  | .pan _ _, _, _, _, ⟨φ', v', h1, h2, h3⟩ => ⟨φ', v', h1, hst.trans h2, h3⟩
  | .no _, _, _, _, _ => trivial
def CodeOK (P : Program) (W0 : World) (big : Bool) (n : Nat) (c : Code) (φ : Phi) (h : Hp) (a : Act) (w : World) (x : Cx) : Prop :=
  (∃ k, x = .no k) ∨ c.wp P (Post W0 big n φ h a.defers x) a w
def CC (P : Program) (W0 : World) (big : Bool) (n : Nat) (c : Code) (cc : CodeC) : Prop :=
  ∀ hd, HdOK P W0 hd → ∀ φ F h a w, RelF φ big n F a → Sm W0 φ h w → CodeOK P W0 big n c φ h a w (cc.run hd F h)
theorem CC.of {c : Code} {cc : CodeC} (hc : ∀ hd, HdOK P W0 hd → ∀ φ F h a w, RelF φ big n F a → Sm W0 φ h w → c.wp P (Post W0 big n φ h a.defers (cc.run hd F h)) a w) : CC P W0 big n c cc :=
  fun hd hhd φ F h a w hF hs => .inr (hc hd hhd φ F h a w hF hs)
theorem CC.no {c : Code} (k : Nat) : CC P W0 big n c ⟨fun _ _ _ => .no k⟩ := fun _ _ _ _ _ _ _ _ _ => .inl ⟨k, rfl⟩

/-! ### One operation -/
def oneO (P : Program) (ops : Array Oper) (Q : Exit → Act → World → Prop) (o : Oper) (K : Act → World → Prop) (a : Act) (w : World) : Prop :=
  if Region.wanted o (yielded ops a.tmps) then o.wp P a w K Q ∨ (o.asks P a w ∧ LetsOut Q) else K (a.put o.dst undef) w
def StepOK (P : Program) (W0 : World) (big : Bool) (n : Nat) (ops : Array Oper) (o : Oper) (Z : Nat → Prop) (φ : Phi) (F : R) (h : Hp) (a : Act) (w : World) : Rx → Prop
  | .go F' h' => (∀ t, t < n → o.dst ≠ some t → (rdT big t).get F' = (rdT big t).get F) ∧ ∀ K Q, (∀ φ' y w', St φ φ' h h' → Sm W0 φ' h' w' → RelK φ' big n (fun t => Z t ∨ o.dst = some t) F' (a.put o.dst y) → K (a.put o.dst y) w') → oneO P ops Q o K a w
  | .pan v h' => ∀ K Q, (∀ φ' v' w', St φ φ' h h' → Sm W0 φ' h' w' → VR φ' v v' → Q (.panic [{ v := v', recovered := false }]) a w') → oneO P ops Q o K a w
  | .no _ => True
def SC (P : Program) (W0 : World) (big : Bool) (n : Nat) (M : Nat → Bool) (ops : Array Oper) (o : Oper) (s : StepC) : Prop :=
  ∀ hd, HdOK P W0 hd → ∀ Z φ F h a w, RelK φ big n Z F a → (∀ t, M t = true → t < n ∧ Z t) → Sm W0 φ h w → StepOK P W0 big n ops o Z φ F h a w (s.run hd F h)
theorem noS_ok (k : Nat) {M : Nat → Bool} : SC P W0 big n M ops o (noS k) := fun _ _ _ _ _ _ _ _ _ _ _ => trivial
def WrOK (big : Bool) (n : Nat) (dst : Option Nat) (wr : Wr) : Prop := ∀ {φ : Phi} {Z : Nat → Prop} {F : R} {a : Act} {v : V} {y : Value}, RelK φ big n Z F a →
  (∀ t, t < n → dst ≠ some t → (rdT big t).get (wr.put v F) = (rdT big t).get F) ∧ (VR φ v y → RelK φ big n (fun t => Z t ∨ dst = some t) (wr.put v F) (a.put dst y))
theorem wrD_ok {dst : Option Nat} {wr : Wr} (hw : wrD big n dst = some wr) : WrOK big n dst wr := by
  unfold wrD at hw
  split at hw
  · cases hw; intro φ Z F a v y hF; exact ⟨fun _ _ _ => rfl, fun _ => hF.sub fun t h => h.resolve_right (by simp)⟩
  · rename_i d
    cases hd : Nat.ble (Nat.succ d) n with
    | false => rw [hd] at hw; cases hw
    | true =>
      rw [hd] at hw; cases hw
      have hlt := Nat.le_of_ble_eq_true hd
      intro φ Z F a v y hF
      refine ⟨fun t ht hne => ?_, fun hv => (hF.put hlt hv).sub fun t h => h.imp id (fun e => by simpa using e.symm)⟩
      rw [rd_wr hF.fit (Nat.lt_of_lt_of_le hlt hF.le) (Nat.lt_of_lt_of_le ht hF.le), if_neg]
      exact fun e => hne (by rw [e])
theorem bodyC_ok {c : OpC} {wr : Wr} {M : Nat → Bool} {Z : Nat → Prop} (hw : WrOK big n o.dst wr) (hc : OkC P W0 big M env o c) {hd : Hd} (hhd : HdOK P W0 hd) (hF : RelK φ big n Z F a) (hM : ∀ t, M t = true → t < n ∧ Z t) (hs : Sm W0 φ h w) (hwant : Region.wanted o (yielded ops a.tmps) = true) :
    StepOK P W0 big n ops o Z φ F h a w ((bodyC c wr).run hd F h) := by
  have h1 := hc hd hhd φ F h a w (hF.toM hM) hs
  show StepOK P W0 big n ops o Z φ F h a w (Ox.rec (motive := fun _ => Rx) (fun v h' => .go (wr.put v F) h') (fun h' => .go (wr.put (.tu []) F) h') (fun v h' => .pan v h') (fun k => .no k) (c.run hd F h))
  generalize c.run hd F h = x at h1
  cases x with
  | val v h' =>
    refine ⟨(hw (y := undef) hF).1, fun K Q k => ?_⟩
    unfold oneO
    rw [if_pos hwant]
    exact .inl (h1 K Q fun φ' v' w' g1 g2 g3 => k φ' v' w' g1 g2 ((hw (hF.mono g1.ext)).2 g3))
  | skip h' =>
    refine ⟨(hw (y := undef) hF).1, fun K Q k => ?_⟩
    unfold oneO
    rw [if_pos hwant]
    exact .inl (h1 K Q fun φ' w' g1 g2 => k φ' undef w' g1 g2 ((hw (hF.mono g1.ext)).2 (VR.tu0 _)))
  | pan v h' =>
    intro K Q k
    unfold oneO
    rw [if_pos hwant]
    exact .inl (h1 K Q fun φ' v' w' g1 g2 g3 => k φ' v' w' g1 g2 g3)
  | no c => trivial
theorem beqB_eq {a b : Bool} : beqB a b = true ↔ a = b := by cases a <;> cases b <;> simp [beqB]
theorem RelK.yielded {Z : Nat → Prop} {j t : Nat} {b : Bool} (hF : RelK φ big n Z F a) (h1 : (ops[j]?).bind (·.dst) = some t) (h2 : t < n) (hz : Z t) (h3 : (rdT big t).get F = .b b) : yielded ops a.tmps j = some b := by
  have ht := hF.at_ t h2 hz
  rw [h3] at ht
  have ht := ht.b
  have hlt : t < a.tmps.size := by rw [hF.size]; exact h2
  unfold Go.yielded
  rw [h1]
  simp only [Option.bind_some]
  have e : a.tmps[t]? = some (Value.bool b) := by
    have : a.tmps.getD t undef = Value.bool b := ht
    simp only [Array.getD, hlt, dif_pos] at this
    simp only [hlt, getElem?_pos]
    exact congrArg some this
  rw [e]
theorem RelK.unyielded {Z : Nat → Prop} {j t : Nat} {l : List V} (hF : RelK φ big n Z F a) (h1 : (ops[j]?).bind (·.dst) = some t) (h2 : t < n) (hz : Z t) (h3 : (rdT big t).get F = .tu l) : Go.yielded ops a.tmps j = none := by
  have ht := hF.at_ t h2 hz
  rw [h3] at ht
  unfold VR at ht
  obtain ⟨ys, ht, _⟩ := ht
  have hlt : t < a.tmps.size := by rw [hF.size]; exact h2
  unfold Go.yielded
  rw [h1]
  simp only [Option.bind_some]
  have e : a.tmps[t]? = some (Value.tuple ys) := by
    simp only [Array.getD, hlt, dif_pos] at ht
    simp only [hlt, getElem?_pos]
    exact congrArg some ht
  rw [e]
theorem stepC_ok (he : EnvOK P env) {M : Nat → Bool} : SC P W0 big n M ops o (stepC P env big n M ops o) := by
  unfold stepC
  split
  · exact noS_ok _
  · rename_i wr hw
    split
    · rename_i hg
      intro hd hhd Z φ F h a w hF hM hs
      exact bodyC_ok (wrD_ok hw) (opC_ok he) hhd hF hM hs (by unfold Region.wanted; rw [hg])
    · rename_i j b hg
      split
      · rename_i t ht
        refine ite_cases (Q := SC P W0 big n M ops o) (fun hlt => ?_) (fun _ => noS_ok _)
        intro hd hhd Z φ F h a w hF hM hs
        show StepOK P W0 big n ops o Z φ F h a w (elB ((rdT big t).get F) (elTu ((rdT big t).get F) (.no 501) fun _ => .go (wr.put (.tu []) F) h) fun b' => ite' (beqB b b') ((bodyC (opC P env big M o.op) wr).run hd F h) (.go (wr.put (.tu []) F) h))
        have hy : ∀ b', (rdT big t).get F = .b b' → yielded ops a.tmps j = some b' := fun b' e => hF.yielded ht (hM t hlt).1 (hM t hlt).2 e
        have hy0 : ∀ l, (rdT big t).get F = .tu l → yielded ops a.tmps j = none := fun l e => hF.unyielded ht (hM t hlt).1 (hM t hlt).2 e
        have off : Region.wanted o (yielded ops a.tmps) = false → StepOK P W0 big n ops o Z φ F h a w (.go (wr.put (.tu []) F) h) := fun hwf => by
          refine ⟨(wrD_ok hw (y := undef) hF).1, fun K Q k => ?_⟩
          unfold oneO
          rw [if_neg (by rw [hwf]; simp)]
          exact k φ undef w (St.refl _ _) hs ((wrD_ok hw hF).2 (VR.tu0 _))
        generalize (rdT big t).get F = x at hy hy0
        cases x <;> try trivial
        · rename_i b'
          have hy := hy b' rfl
          refine ite_cases (Q := StepOK P W0 big n ops o Z φ F h a w) (fun hb => ?_) (fun hb => ?_)
          · refine bodyC_ok (wrD_ok hw) (opC_ok he) hhd hF hM hs ?_
            unfold Region.wanted
            rw [hg]
            simp [hy, beqB_eq.1 hb]
          · refine off ?_
            unfold Region.wanted
            rw [hg]
            have : ¬ b = b' := fun e => by rw [beqB_eq.2 e] at hb; cases hb
            simp [hy, Ne.symm this]
            first | done | exact fun e => this e.symm | exact this
        · rename_i l
          have hy0 := hy0 l rfl
          refine off ?_
          unfold Region.wanted
          rw [hg]
          simp [hy0]
      · exact noS_ok _
/-! ### Operations one by one -/
def toC : Rx → Cx
  | .go F h => .go F h
  | .pan v h => .pan v h
  | .no k => .no k
def StepsOK (P : Program) (W0 : World) (big : Bool) (n : Nat) (ops : Array Oper) (l : List Oper) (φ : Phi) (h : Hp) (a : Act) (w : World) (x : Rx) : Prop :=
  (∃ k, x = .no k) ∨ wpList P ops (Post W0 big n φ h a.defers (toC x)) l a w
theorem wpList_one {Q : Exit → Act → World → Prop} {l : List Oper} : wpList P ops Q (o :: l) a w = oneO P ops Q o (wpList P ops Q l) a w := rfl
theorem wpList_mono {Q Q' : Exit → Act → World → Prop} (hq : ∀ e a w, Q e a w → Q' e a w) : ∀ {l : List Oper} {a : Act} {w : World}, wpList P ops Q l a w → wpList P ops Q' l a w := by
  intro l
  induction l with
  | nil => exact fun h => hq _ _ _ h
  | cons o l ih =>
    intro a w h
    rw [wpList_one] at h ⊢
    unfold oneO at h ⊢
    split
    · rename_i hw
      rw [if_pos hw] at h
      rcases h with h | ⟨h1, a0, w0, h2⟩
      · refine .inl ?_
        unfold Oper.wp at *
        generalize (execOp a.eval o).run P w = r at *
        cases r with
        | ok x w' =>
          cases x <;> simp only [Oper.upon] at h ⊢ <;>
            first
              | exact ih h
              | exact Calls.mono h (fun e w'' he => by cases e <;> first | exact ih he | exact hq _ _ _ he | (obtain ⟨a0, w0, he⟩ := he; exact ⟨a0, w0, hq _ _ _ he⟩))
              | exact Rows.mono h (fun _ _ he => ih he)
        | halt x w' => cases x <;> simp only [Oper.upon] at h ⊢ <;> exact hq _ _ _ h
      · exact .inr ⟨h1, a0, w0, hq _ _ _ h2⟩
    · rename_i hw
      rw [if_neg hw] at h
      exact ih h
theorem stepsC_ok (he : EnvOK P env) (hd : Hd) (hhd : HdOK P W0 hd) : ∀ (l : List Oper) (φ : Phi) (F : R) (h : Hp) (a : Act) (w : World), RelF φ big n F a → Sm W0 φ h w → StepsOK P W0 big n ops l φ h a w ((stepsC P env big n ops l).run hd F h)
  | [], φ, F, h, a, w, hF, hs => .inr ⟨rfl, φ, St.refl _ _, hs, hF, rfl⟩
  | o :: l, φ, F, h, a, w, hF, hs => by
    have h1 := stepC_ok (ops := ops) (o := o) he (M := fullM n) hd hhd (fun _ => True) φ F h a w (hF.toK _) (fun t ht => ⟨Nat.le_of_ble_eq_true ht, trivial⟩) hs
    show StepsOK P W0 big n ops (o :: l) φ h a w (Rx.rec (motive := fun _ => Rx) (fun F h => (stepsC P env big n ops l).run hd F h) (fun v h => .pan v h) (fun k => .no k) ((stepC P env big n (fullM n) ops o).run hd F h))
    generalize (stepC P env big n (fullM n) ops o).run hd F h = x at h1
    cases x with
    | go F1 h1' =>
      have ih := fun φ1 a1 w1 => stepsC_ok he hd hhd l φ1 F1 h1' a1 w1
      show StepsOK P W0 big n ops (o :: l) φ h a w ((stepsC P env big n ops l).run hd F1 h1')
      generalize (stepsC P env big n ops l).run hd F1 h1' = r at ih
      by_cases hr : ∃ k, r = .no k
      · exact .inl hr
      · refine .inr ?_
        rw [wpList_one]
        refine h1.2 _ _ fun φ1 y w1 g1 g2 g3 => ?_
        rcases ih φ1 _ w1 (g3.toF fun _ _ => .inl trivial) g2 with hno | hok
        · exact absurd hno hr
        · rw [put_defers] at hok
          exact wpList_mono (fun _ _ _ hq => hq.from g1) hok
    | pan v h1' =>
      refine .inr ?_
      rw [wpList_one]
      exact h1 _ _ fun φ1 v' w1 g1 g2 g3 => ⟨φ1, v', rfl, g1, g2, g3, rfl⟩
    | no k => exact .inl ⟨k, rfl⟩
/-! ### Code -/
def RegSound (P : Program) (W0 : World) (big : Bool) (n : Nat) (c : Code) (s : StepC) : Prop :=
  ∀ hd, HdOK P W0 hd → ∀ φ F h a w, RelF φ big n F a → Sm W0 φ h w → CodeOK P W0 big n c φ h a w (toC (s.run hd F h))
theorem regC_ok {c : Code} {s : StepC} (hs : RegSound P W0 big n c s) : CC P W0 big n c (regC s) := by
  intro hd hhd φ F h a w hF hm
  have h1 := hs hd hhd φ F h a w hF hm
  show CodeOK P W0 big n c φ h a w (Rx.rec (motive := fun _ => Cx) (fun F h => .go F h) (fun v h => .pan v h) (fun k => .no k) (s.run hd F h))
  generalize s.run hd F h = x at h1
  cases x <;> exact h1
theorem plain_ok (he : EnvOK P env) (id : Nat) (l : List Oper) : RegSound P W0 big n (.region id l.toArray false) (stepsC P env big n l.toArray l) := by
  intro hd hhd φ F h a w hF hs
  rcases stepsC_ok (ops := l.toArray) he hd hhd l φ F h a w hF hs with ⟨k, hk⟩ | h1
  · exact .inl ⟨k, by rw [hk]; rfl⟩
  · exact .inr (wp_region_lit h1)
theorem thenC_ok {x y : Code} {cx cy : CodeC} (hx : CC P W0 big n x cx) (hy : CC P W0 big n y cy) : CC P W0 big n (.seq x y) (thenC cx cy) := by
  intro hd hhd φ F h a w hF hs
  have h1 := hx hd hhd φ F h a w hF hs
  show CodeOK P W0 big n (.seq x y) φ h a w (Cx.rec (motive := fun _ => Cx) (fun F h => cy.run hd F h) (fun id F h => .ex id F h) (fun F h => .ret F h) (fun v h => .pan v h) (fun k => .no k) (cx.run hd F h))
  generalize cx.run hd F h = r at h1
  have pass : ∀ {r : Cx}, CodeOK P W0 big n x φ h a w r → (∀ F h, r ≠ .go F h) → CodeOK P W0 big n (.seq x y) φ h a w r := by
    intro r h1 hne
    rcases h1 with h1 | h1
    · exact .inl h1
    · cases r with
      | no k => exact .inl ⟨k, rfl⟩
      | go F h => exact absurd rfl (hne F h)
      | ex id F h =>
        refine .inr (wp_seq (wp_mono h1 fun e a' w' hq => ?_))
        have := hq.1; subst this; exact hq
      | ret F h =>
        refine .inr (wp_seq (wp_mono h1 fun e a' w' hq => ?_))
        have := hq.1; subst this; exact hq
      | pan v h =>
        refine .inr (wp_seq (wp_mono h1 fun e a' w' hq => ?_))
        obtain ⟨φ', v', e1, hq'⟩ := hq; subst e1; exact ⟨φ', v', rfl, hq'⟩
  cases r with
  | go F1 h1' =>
    show CodeOK P W0 big n (.seq x y) φ h a w (cy.run hd F1 h1')
    have h2 := fun φ1 a1 w1 => hy hd hhd φ1 F1 h1' a1 w1
    generalize cy.run hd F1 h1' = r at h2
    by_cases hr : ∃ k, r = .no k
    · exact .inl hr
    · rcases h1 with ⟨k, hk⟩ | h1
      · cases hk
      · refine .inr (wp_seq (wp_mono h1 fun e a' w' hq => ?_))
        obtain ⟨rfl, φ1, g1, g2, g3, g4⟩ := hq
        rcases h2 φ1 a' w' g3 g2 with hno | hok
        · exact absurd hno hr
        · rw [g4] at hok
          exact wp_mono hok fun _ _ _ hq => hq.from g1
  | ex id F1 h1' => exact pass h1 (by simp)
  | ret F1 h1' => exact pass h1 (by simp)
  | pan v h1' => exact pass h1 (by simp)
  | no k => exact .inl ⟨k, rfl⟩
end
end
end Go.Ev
/-
  Code and functions made ready to run, sound. No program in sight.
-/
namespace Go.Ev
open Go Go.SL Go.RowKit
noncomputable section
section
variable {P : Program} {W0 w : World} {φ : Phi} {h : Hp} {o : Oper} {a : Act} {big : Bool} {n : Nat} {F : R} {env : Env} {ops : Array Oper} {D : List Deferred} {dr : Bool → Nat → Array Oper → StepC}
theorem condC_ok {c : Operand} {x y : Code} {cx cy : CodeC} (hx : CC P W0 big n x cx) (hy : CC P W0 big n y cy) : CC P W0 big n (.cond c x y) (condC (opd big (fullM n) c) cx cy) := by
  intro hd hhd φ F h a w hF hs
  have hc := opd_ok hF.toM c
  show CodeOK P W0 big n (.cond c x y) φ h a w (elB ((opd big (fullM n) c).get F) (.no 510) fun b => ite' b (cx.run hd F h) (cy.run hd F h))
  generalize (opd big (fullM n) c).get F = v at hc
  cases v <;> try exact .inl ⟨_, rfl⟩
  rename_i b
  have hc := hc.b
  cases b with
  | true =>
    rcases hx hd hhd φ F h a w hF hs with ⟨k, hk⟩ | h1
    · exact .inl ⟨k, hk⟩
    · exact .inr (wp_cond_true hc h1)
  | false =>
    rcases hy hd hhd φ F h a w hF hs with ⟨k, hk⟩ | h1
    · exact .inl ⟨k, hk⟩
    · exact .inr (wp_cond_false hc h1)
theorem blockC_ok {id : Nat} {x : Code} {cx : CodeC} (hx : CC P W0 big n x cx) : CC P W0 big n (.block id x) (blockC id cx) := by
  intro hd hhd φ F h a w hF hs
  have h1 := hx hd hhd φ F h a w hF hs
  show CodeOK P W0 big n (.block id x) φ h a w (Cx.rec (motive := fun _ => Cx) (fun F h => .go F h) (fun id' F h => ite' (Nat.beq id' id) (.go F h) (.ex id' F h)) (fun F h => .ret F h) (fun v h => .pan v h) (fun k => .no k) (cx.run hd F h))
  generalize cx.run hd F h = r at h1
  rcases h1 with ⟨k, rfl⟩ | h1
  · exact .inl ⟨k, rfl⟩
  · cases r with
    | go F h =>
      refine .inr (wp_block (wp_mono h1 fun e a' w' hq => ?_))
      have := hq.1; subst this; exact hq
    | ret F h =>
      refine .inr (wp_block (wp_mono h1 fun e a' w' hq => ?_))
      have := hq.1; subst this; exact hq
    | pan v h =>
      refine .inr (wp_block (wp_mono h1 fun e a' w' hq => ?_))
      obtain ⟨φ', v', e1, hq'⟩ := hq; subst e1; exact ⟨φ', v', rfl, hq'⟩
    | ex id' F h =>
      refine ite_cases (Q := CodeOK P W0 big n (.block id x) _ _ a w) (fun hb => ?_) (fun hb => ?_)
      · refine .inr (wp_block (wp_mono h1 fun e a' w' hq => ?_))
        have := hq.1; subst this
        simp only [Exit.inBlock, Nat.eq_of_beq_eq_true hb, if_true]
        exact ⟨rfl, hq.2⟩
      · refine .inr (wp_block (wp_mono h1 fun e a' w' hq => ?_))
        have := hq.1; subst this
        have : ¬ id' = id := fun e => by subst e; simp at hb
        simp only [Exit.inBlock, this, if_false]
        exact hq
    | no k => exact .inl ⟨k, rfl⟩
/-! ### Rounds of a loop -/
def Head (P : Program) (W0 : World) (big : Bool) (n : Nat) (c : Code) (φ : Phi) (h : Hp) (a : Act) (w : World) (x : Cx) : Prop :=
  (∃ k, x = .no k) ∨ ∀ b k cs, match x with
    | .go F' h' => ∃ φ' a' w', St φ φ' h h' ∧ Sm W0 φ' h' w' ∧ RelF φ' big n F' a' ∧ a'.defers = a.defers ∧ Steps P (lone (b.at a (.code c :: .inLoop c :: k)) cs w) (lone (b.at a' (.code c :: .inLoop c :: k)) cs w')
    | x => ∃ e a' w', Post W0 big n φ h a.defers x e a' w' ∧ Arrives P (lone (b.at a (.code c :: .inLoop c :: k)) cs w) b k cs e a' w'
def LC (P : Program) (W0 : World) (big : Bool) (n : Nat) (c : Code) (cc : CodeC) : Prop :=
  ∀ hd, HdOK P W0 hd → ∀ φ F h a w, RelF φ big n F a → Sm W0 φ h w → Head P W0 big n c φ h a w (cc.run hd F h)
theorem LC.one {c : Code} {cc : CodeC} (hc : CC P W0 big n c cc) : LC P W0 big n c cc := by
  intro hd hhd φ F h a w hF hs
  have h1 := hc hd hhd φ F h a w hF hs
  generalize cc.run hd F h = r at h1
  rcases h1 with h1 | h1
  · exact .inl h1
  · by_cases hr : ∃ k, r = .no k
    · exact .inl hr
    refine .inr fun b k cs => ?_
    obtain ⟨e, a', w', hq, harr⟩ := h1 b (.inLoop c :: k) cs
    cases r with
    | go F1 h1' =>
      obtain ⟨rfl, φ', g1, g2, g3, g4⟩ := hq
      exact ⟨φ', a', w', g1, g2, g3, g4, Steps.trans harr (.one step_inLoop)⟩
    | ex id F1 h1' =>
      have := hq.1; subst this
      exact ⟨_, a', w', hq, .pass (x := .inLoop c) rfl (fun _ _ => .inl (by simp)) harr⟩
    | ret F1 h1' =>
      have := hq.1; subst this
      exact ⟨_, a', w', hq, .pass (x := .inLoop c) rfl (fun _ _ => .inl (by simp)) harr⟩
    | pan v h1' =>
      obtain ⟨φ', v', e1, hq'⟩ := hq; subst e1
      exact ⟨_, a', w', ⟨φ', v', rfl, hq'⟩, .pass (x := .inLoop c) rfl (fun _ _ => .inl (by simp)) harr⟩
    | no k' => exact absurd ⟨k', rfl⟩ hr
theorem LC.two {c : Code} {cx cy : CodeC} (hx : LC P W0 big n c cx) (hy : LC P W0 big n c cy) : LC P W0 big n c (thenC cx cy) := by
  intro hd hhd φ F h a w hF hs
  have h1 := hx hd hhd φ F h a w hF hs
  show Head P W0 big n c φ h a w (Cx.rec (motive := fun _ => Cx) (fun F h => cy.run hd F h) (fun id F h => .ex id F h) (fun F h => .ret F h) (fun v h => .pan v h) (fun k => .no k) (cx.run hd F h))
  generalize cx.run hd F h = r at h1
  cases r with
  | go F1 h1' =>
    show Head P W0 big n c φ h a w (cy.run hd F1 h1')
    have h2 := fun φ1 a1 w1 => hy hd hhd φ1 F1 h1' a1 w1
    generalize cy.run hd F1 h1' = r at h2
    by_cases hr : ∃ k, r = .no k
    · exact .inl hr
    · rcases h1 with ⟨k, hk⟩ | h1
      · cases hk
      · refine .inr fun b k cs => ?_
        obtain ⟨φ1, a1, w1, g1, g2, g3, g4, g5⟩ := h1 b k cs
        rcases h2 φ1 a1 w1 g3 g2 with hno | hok
        · exact absurd hno hr
        · have hok := hok b k cs
          cases r with
          | go F2 h2' =>
            obtain ⟨φ2, a2, w2, q1, q2, q3, q4, q5⟩ := hok
            exact ⟨φ2, a2, w2, g1.trans q1, q2, q3, q4.trans g4, Steps.trans g5 q5⟩
          | ex id F2 h2' => obtain ⟨e, a2, w2, q1, q2⟩ := hok; exact ⟨e, a2, w2, (g4 ▸ q1).from g1, .of_steps g5 q2⟩
          | ret F2 h2' => obtain ⟨e, a2, w2, q1, q2⟩ := hok; exact ⟨e, a2, w2, (g4 ▸ q1).from g1, .of_steps g5 q2⟩
          | pan v h2' => obtain ⟨e, a2, w2, q1, q2⟩ := hok; exact ⟨e, a2, w2, (g4 ▸ q1).from g1, .of_steps g5 q2⟩
          | no k' => exact absurd ⟨k', rfl⟩ hr
  | ex id F1 h1' => exact h1
  | ret F1 h1' => exact h1
  | pan v h1' => exact h1
  | no k => exact .inl ⟨k, rfl⟩
theorem twice_ok {c : Code} {cc : CodeC} (hc : LC P W0 big n c cc) : ∀ k, LC P W0 big n c (twice cc k)
  | 0 => hc
  | k + 1 => LC.two (twice_ok hc k) (twice_ok hc k)
theorem loopC_ok {c : Code} {cc : CodeC} (hc : CC P W0 big n c cc) : CC P W0 big n (.loop c) (loopC cc) := by
  intro hd hhd φ F h a w hF hs
  have h1 := twice_ok (LC.one hc) 24 hd hhd φ F h a w hF hs
  show CodeOK P W0 big n (.loop c) φ h a w (Cx.rec (motive := fun _ => Cx) (fun F h => .no 511) (fun id F h => .ex id F h) (fun F h => .ret F h) (fun v h => .pan v h) (fun k => .no k) ((twice cc 24).run hd F h))
  generalize (twice cc 24).run hd F h = r at h1
  rcases h1 with ⟨k, rfl⟩ | h1
  · exact .inl ⟨k, rfl⟩
  · cases r with
    | go F1 h1' => exact .inl ⟨_, rfl⟩
    | ex id F1 h1' => refine .inr fun b k cs => ?_; obtain ⟨e, a2, w2, q1, q2⟩ := h1 b k cs; exact ⟨e, a2, w2, q1, .of_steps (.one step_loop) q2⟩
    | ret F1 h1' => refine .inr fun b k cs => ?_; obtain ⟨e, a2, w2, q1, q2⟩ := h1 b k cs; exact ⟨e, a2, w2, q1, .of_steps (.one step_loop) q2⟩
    | pan v h1' => refine .inr fun b k cs => ?_; obtain ⟨e, a2, w2, q1, q2⟩ := h1 b k cs; exact ⟨e, a2, w2, q1, .of_steps (.one step_loop) q2⟩
    | no k' => exact .inl ⟨k', rfl⟩
def DrOK (P : Program) (W0 : World) (dr : Bool → Nat → Array Oper → StepC) : Prop := ∀ big n id ops, RegSound P W0 big n (.region id ops true) (dr big n ops)
theorem codeC_ok (he : EnvOK P env) (hr : DrOK P W0 dr) : ∀ c : Code, CC P W0 big n c (codeC P env dr big n c)
  | .skip => CC.of fun hd hhd φ F h a w hF hs => wp_skip ⟨rfl, φ, St.refl _ _, hs, hF, rfl⟩
  | .region id ops draw => by
    refine regC_ok ?_
    cases draw with
    | true => exact hr big n id ops
    | false =>
      have := plain_ok (W0 := W0) (big := big) (n := n) he id ops.toList
      rw [Array.toArray_toList] at this
      exact this
  | .seq x y => thenC_ok (codeC_ok he hr x) (codeC_ok he hr y)
  | .cond c x y => condC_ok (codeC_ok he hr x) (codeC_ok he hr y)
  | .block id x => blockC_ok (codeC_ok he hr x)
  | .loop x => loopC_ok (codeC_ok he hr x)
  | .rangeFunc _ _ _ _ => CC.no _
  | .exit id => CC.of fun hd hhd φ F h a w hF hs => wp_exit ⟨rfl, φ, St.refl _ _, hs, hF, rfl⟩
  | .scope _ => CC.no _
  | .label _ => CC.of fun hd hhd φ F h a w hF hs => wp_label ⟨rfl, φ, St.refl _ _, hs, hF, rfl⟩
  | .goto _ => CC.no _
  | .ret => CC.of fun hd hhd φ F h a w hF hs => wp_ret ⟨rfl, φ, St.refl _ _, hs, hF, rfl⟩
  | .refuse _ => CC.no _
/-! ### Functions -/
theorem fillA_ok (hn : n ≤ lim big) {a : Act} (hsz : a.tmps.size = n) : ∀ (args : List V) (vs : List Value) (t : Nat), LR φ args vs → t + args.length ≤ n → (∀ j, a.tmps.getD (t + j) undef = argF vs j) →
    (fillA big args t).fit big ∧ ∀ u, u < n → (u < t → (rdT big u).get (fillA big args t) = .u) ∧ (t ≤ u → VR φ ((rdT big u).get (fillA big args t)) (argF vs (u - t)))
  | [], vs, t, hl, _, _ => by
    unfold LR at hl
    subst hl
    refine ⟨blank_fit big, fun u hu => ⟨fun _ => rd_blank (Nat.lt_of_lt_of_le hu hn), fun _ => ?_⟩⟩
    show VR φ ((rdT big u).get (blank big)) _
    rw [rd_blank (Nat.lt_of_lt_of_le hu hn)]
    exact VR_u _ _
  | v :: args, vs, t, hl, hlen, hat => by
    unfold LR at hl
    obtain ⟨y, ys, rfl, h1, h2⟩ := hl
    simp only [List.length_cons] at hlen
    obtain ⟨g1, g2⟩ := fillA_ok hn hsz args ys (t + 1) h2 (by omega) fun j => by
      have := hat (j + 1)
      rw [show t + (j + 1) = t + 1 + j by omega] at this
      rw [this]; rfl
    refine ⟨wr_fit g1 _ _, fun u hu => ?_⟩
    show (u < t → (rdT big u).get ((wrT big t).put v (fillA big args (t + 1))) = .u) ∧ _
    have hr := rd_wr (big := big) g1 (t := t) (u := u) (by omega) (by omega) v
    refine ⟨fun hlt => ?_, fun hle => ?_⟩
    · rw [hr, if_neg (by omega)]
      exact (g2 u hu).1 (by omega)
    · show VR φ ((rdT big u).get ((wrT big t).put v (fillA big args (t + 1)))) _
      rw [hr]
      by_cases e : u = t
      · subst e
        rw [if_pos rfl, Nat.sub_self]
        exact h1
      · rw [if_neg e]
        have := (g2 u hu).2 (by omega)
        rw [show u - t = (u - (t + 1)) + 1 by omega]
        exact this
theorem rvC_ok (hF : RelF φ big n F a) (hs : Sm W0 φ h w) (r : ResultVar) {v : V} {h' : Hp} (hr : (rvC P big n r).run F h = .val v h') : ∃ y, VR φ v y ∧ (rv a.tmps r).run P w = .ok y w := by
  cases r with
  | tmp t =>
    have hx := opd_ok hF.toM (.tmp t)
    cases hr
    exact ⟨_, hx, by simp [rv, Act.eval]⟩
  | cell x t =>
    have hx := opd_ok hF.toM (.tmp x)
    unfold rvC at hr
    simp only at hr
    split at hr
    · rename_i td hu
      cases hsc : scalar td with
      | true =>
        rw [hsc] at hr
        change load1 ((opd big (fullM n) (.tmp x)).get F) h = .val v h' at hr
        generalize (opd big (fullM n) (.tmp x)).get F = xv at hx hr
        cases xv <;> try (cases hr; done)
        rename_i b o
        obtain ⟨B, ha, e⟩ := hx.p
        change (match PT.get b h.mem with
          | some (.row _ _ c) => Bool.rec (.no 12) (.val (T.get c o) h) (Nat.ble (Nat.succ o) (T.size c))
          | _ => .no 13) = Ox.val v h' at hr
        split at hr
        · rename_i t' s c hg
          cases hb : Nat.ble (Nat.succ o) (T.size c) with
          | false => rw [hb] at hr; cases hr
          | true =>
            rw [hb] at hr
            cases hr
            obtain ⟨y, h1, h2, h3⟩ := hs.cell hg ha (o := o) (Nat.le_of_ble_eq_true hb)
            have hag : ∀ w, (isAgg t).run P w = .ok false w := run_isAgg_no hu hsc
            refine ⟨y, h2, ?_⟩
            have e : a.tmps.getD x undef = _ := e
            simp only [rv, e]
            simp [asAddr, loadVar, hag, run_load, h1]
        · cases hr
      | false =>
        rw [hsc] at hr
        change (match tyd P t with
          | some (sz, _, _) => (⟨fun F h => loadN sz ((opd big (fullM n) (.tmp x)).get F) h⟩ : RvC)
          | none => ⟨fun _ _ => .no 530⟩).run F h = .val v h' at hr
        split at hr
        · rename_i sz by_ z hty
          change loadN sz ((opd big (fullM n) (.tmp x)).get F) h = .val v h' at hr
          generalize (opd big (fullM n) (.tmp x)).get F = xv at hx hr
          cases xv <;> try (cases hr; done)
          rename_i b o
          obtain ⟨B, ha, e⟩ := hx.p
          change (match PT.get b h.mem with
            | some (.row _ _ c) => Bool.rec (.no 15) (.val (.ag (T.sub c o sz)) h) (Nat.ble (Nat.add o sz) (T.size c))
            | _ => .no 16) = Ox.val v h' at hr
          split at hr
          · rename_i t' s c hg
            cases hb : Nat.ble (Nat.add o sz) (T.size c) with
            | false => rw [hb] at hr; cases hr
            | true =>
              rw [hb] at hr
              cases hr
              obtain ⟨ys, h1, h2, h3, h4⟩ := hs.loadCells (P := P) hg ha (o := o) (n := sz) (Nat.le_of_ble_eq_true hb)
              have hag : ∀ w, (isAgg t).run P w = .ok true w := run_isAgg_yes hu hsc
              have hsz : ∀ w, (sizeOf t).run P w = .ok sz w := fun w => (tyd_inf hty).run_size
              refine ⟨.agg ys.toArray, ?_, ?_⟩
              · unfold VR
                exact ⟨_, rfl, by simpa using h3, by simpa using h4⟩
              · have e : a.tmps.getD x undef = _ := e
                simp only [rv, e]
                simp [asAddr, loadVar, hag, hsz, h1]
          · cases hr
        · cases hr
    · cases hr
theorem onV_val {x : Ox} {k : V → Ox} {v : V} {h' : Hp} (hx : onV x k = .val v h') : ∃ v2 h1, x = .val v2 h1 ∧ k v2 = .val v h' := by
  cases x <;> first | exact ⟨_, _, rfl, hx⟩ | cases hx
theorem retC_ok {fn : Func} (hF : RelF φ big n F a) (hs : Sm W0 φ h w) {v : V} {h' : Hp} (hr : (retC P big n fn.results.toList).run F h = .val v h') : h' = h ∧ ∃ y, VR φ v y ∧ (results fn a.tmps).run P w = .ok y w := by
  have e : results fn a.tmps = (do let vs ← fn.results.mapM (rv a.tmps); pure (if h : vs.size = 1 then vs[0] else .tuple vs)) := rfl
  rw [e]
  unfold retC at hr
  split at hr
  · rename_i hl
    rw [arr hl]
    cases hr
    exact ⟨rfl, _, VR.tu0 _, by simp⟩
  · rename_i r hl
    rw [arr hl]
    obtain ⟨u0, h1, e1, e2⟩ := onV_val hr
    obtain ⟨y, g1, g2⟩ := rvC_ok hF hs r e1
    cases e2
    exact ⟨rfl, y, g1, by simp [g2]⟩
  · rename_i r s hl
    rw [arr hl]
    obtain ⟨u0, h1, e1, e2⟩ := onV_val hr
    obtain ⟨u2, h2, e3, e4⟩ := onV_val e2
    obtain ⟨y, g1, g2⟩ := rvC_ok hF hs r e1
    obtain ⟨y2, g3, g4⟩ := rvC_ok hF hs s e3
    cases e4
    exact ⟨rfl, _, VR.tu2 g1 g3, by simp [g2, g4]⟩
  · rename_i r s t hl
    rw [arr hl]
    obtain ⟨u0, h1, e1, e2⟩ := onV_val hr
    obtain ⟨u2, h2, e3, e4⟩ := onV_val e2
    obtain ⟨u3, h3, e5, e6⟩ := onV_val e4
    obtain ⟨y, g1, g2⟩ := rvC_ok hF hs r e1
    obtain ⟨y2, g3, g4⟩ := rvC_ok hF hs s e3
    obtain ⟨y3, g5, g6⟩ := rvC_ok hF hs t e5
    cases e6
    refine ⟨rfl, .tuple #[y, y2, y3], ?_, by simp [g2, g4, g6]⟩
    unfold VR
    refine ⟨_, rfl, ?_⟩
    unfold LR
    refine ⟨_, _, rfl, g1, ?_⟩
    unfold LR
    refine ⟨_, _, rfl, g3, ?_⟩
    unfold LR
    exact ⟨_, _, rfl, g5, by unfold LR; rfl⟩
  · cases hr
def FnOK (P : Program) (W0 : World) (f : Nat) (c : FnC) : Prop := ∀ hd, HdOK P W0 hd → ∀ args h φ w argsR, Sm W0 φ h w → LR φ args argsR → CallOK P W0 φ h w f argsR.toArray (c.run hd args h)
theorem noF_ok {f : Nat} (k : Nat) : FnOK P W0 f (noF k) := fun _ _ _ _ _ _ _ _ _ => trivial
theorem LR.length : ∀ {xs : List V} {vs : List Value}, LR φ xs vs → xs.length = vs.length
  | [], vs, h => by unfold LR at h; subst h; rfl
  | x :: xs, vs, h => by
    unfold LR at h
    obtain ⟨y, ys, rfl, _, h2⟩ := h
    simp [h2.length]
theorem fnC_ok (he : EnvOK P env) (hr : DrOK P W0 dr) (f : Nat) : FnOK P W0 f (fnC P env dr f) := by
  unfold fnC
  split
  · rename_i fn hf
    split
    · rename_i c hb
      refine ite_cases (Q := FnOK P W0 f) (fun hlim => ?_) (fun _ => noF_ok _)
      have hlim := Nat.le_of_ble_eq_true hlim
      generalize (Nat.blt 64 fn.ntmps) = big at hlim
      intro hd hhd args h φ w argsR hs hl
      refine ite_cases (Q := CallOK P W0 φ h w f argsR.toArray) (fun hn => ?_) (fun _ => trivial)
      have hn := Nat.le_of_ble_eq_true hn
      have hlen := hl.length
      have hsize : (argsR.toArray ++ Array.replicate (fn.ntmps - argsR.toArray.size) undef).size = fn.ntmps := by simp; omega
      have hat : ∀ t, (argsR.toArray ++ Array.replicate (fn.ntmps - argsR.toArray.size) undef).getD t undef = argF argsR t := fun t => by
        rw [← argF_at argsR (fn.ntmps - argsR.toArray.size) t]
        simp only [Array.getD_eq_getD_getElem?]
        congr 1
        rw [← Array.getElem?_toList]
        simp
      obtain ⟨g1, g2⟩ := fillA_ok (a := { tmps := argsR.toArray ++ Array.replicate (fn.ntmps - argsR.toArray.size) undef, defers := [] }) (big := big) hlim hsize args argsR 0 hl (by omega) (fun j => by rw [Nat.zero_add]; exact hat j)
      have hF : RelF φ big fn.ntmps (fillA big args 0) { tmps := argsR.toArray ++ Array.replicate (fn.ntmps - argsR.toArray.size) undef, defers := [] } :=
        ⟨g1, hlim, hsize, fun t ht => by have := (g2 t ht).2 (Nat.zero_le _); rw [Nat.sub_zero] at this; rw [hat t]; exact this⟩
      have h1 := codeC_ok (big := big) (n := fn.ntmps) he hr c hd hhd φ _ h _ w hF hs
      show CallOK P W0 φ h w f argsR.toArray (Cx.rec (motive := fun _ => Ox)
        (fun F h => valO ((retC P big fn.ntmps fn.results.toList).run F h))
        (fun _ _ _ => .no 540)
        (fun F h => valO ((retC P big fn.ntmps fn.results.toList).run F h))
        (fun v h => .pan v h) (fun k => .no (tagN f k))
        ((codeC P env dr big fn.ntmps c).run hd (fillA big args 0) h))
      generalize (codeC P env dr big fn.ntmps c).run hd (fillA big args 0) h = r at h1
      rcases h1 with ⟨k, rfl⟩ | h1
      · trivial
      · have fin : ∀ F1 h1' e0, (e0 = Exit.normal ∨ e0 = Exit.ret) → c.wp P (fun e a' w' => e = e0 ∧ ∃ φ', St φ φ' h h1' ∧ Sm W0 φ' h1' w' ∧ RelF φ' big fn.ntmps F1 a' ∧ a'.defers = []) { tmps := argsR.toArray ++ Array.replicate (fn.ntmps - argsR.toArray.size) undef, defers := [] } w →
            CallOK P W0 φ h w f argsR.toArray (valO ((retC P big fn.ntmps fn.results.toList).run F1 h1')) := by
          intro F1 h1' e0 he0 hwp
          have hret := fun φ' a' w' (hF : RelF φ' big fn.ntmps F1 a') (hs : Sm W0 φ' h1' w') => @retC_ok P W0 w' φ' h1' a' big fn.ntmps F1 fn hF hs
          generalize hq : (retC P big fn.ntmps fn.results.toList).run F1 h1' = x at hret
          cases x with
          | val v h2 =>
            refine calls_of_wp hf hb (wp_mono hwp fun e a' w' hp => ?_)
            obtain ⟨rfl, φ', q1, q2, q3, q4⟩ := hp
            obtain ⟨rfl, y, q5, q6⟩ := hret φ' a' w' q3 q2 rfl
            rcases he0 with rfl | rfl
            · exact ⟨q4, y, q6, φ', y, rfl, q1, q2, q5⟩
            · exact ⟨q4, y, q6, φ', y, rfl, q1, q2, q5⟩
          | skip h2 => trivial
          | pan v h2 => trivial
          | no k => trivial
        cases r with
        | go F1 h1' => exact fin F1 h1' _ (.inl rfl) h1
        | ret F1 h1' => exact fin F1 h1' _ (.inr rfl) h1
        | ex id F1 h1' => trivial
        | pan v h1' =>
          refine calls_of_wp hf hb (wp_mono h1 fun e a' w' hp => ?_)
          obtain ⟨φ', v', rfl, q1, q2, q3, q4⟩ := hp
          exact ⟨q4, φ', v', rfl, q1, q2, q3⟩
        | no k => trivial
    · exact noF_ok _
  · exact noF_ok _
theorem runN_ok (he : EnvOK P env) (hr : DrOK P W0 dr) : ∀ n, HdOK P W0 (runN P env dr n)
  | 0 => fun _ _ _ _ _ _ _ _ => trivial
  | n + 1 => fun f args h φ w argsR hs hl => fnC_ok he hr f (runN P env dr n) (runN_ok he hr n) args h φ w argsR hs hl
end
end
end Go.Ev
/-
  Operations that leave the blocks alone; equality of values by a reckoning. No program in sight.
-/
namespace Go.Ev
open Go Go.SL Go.RowKit
noncomputable section
/-- the blocks are as they were -/
def Same (h : Hp) : Ox → Prop
  | .val _ h' => h' = h
  | .skip h' => h' = h
  | _ => True
section
variable {h : Hp} {x : V} {d : Ox}
theorem s_ite {b : Bool} {x y : Ox} (h1 : Same h x) (h2 : Same h y) : Same h (ite' b x y) := by cases b <;> assumption
theorem s_bool {b : Bool} {x y : Ox} (h1 : Same h x) (h2 : Same h y) : Same h (Bool.rec (motive := fun _ => Ox) x y b) := by cases b <;> assumption
theorem s_int {z : Int} {f g : Nat → Ox} (h1 : ∀ n, Same h (f n)) (h2 : ∀ n, Same h (g n)) : Same h (Int.rec (motive := fun _ => Ox) f g z) := by cases z; exact h1 _; exact h2 _
theorem s_elB {k : Bool → Ox} (h1 : Same h d) (h2 : ∀ (b : Bool), Same h (k b)) : Same h (elB x d k) := by cases x <;> first | exact h1 | exact h2 _
theorem s_elI {k : IntKind → Int → Ox} (h1 : Same h d) (h2 : ∀ (a : IntKind) (z : Int), Same h (k a z)) : Same h (elI x d k) := by cases x <;> first | exact h1 | exact h2 _ _
theorem s_elF {k : Nat → Ox} (h1 : Same h d) (h2 : ∀ (a : Nat), Same h (k a)) : Same h (elF x d k) := by cases x <;> first | exact h1 | exact h2 _
theorem s_elS {k : Nat → Nat → Ox} (h1 : Same h d) (h2 : ∀ (a b : Nat), Same h (k a b)) : Same h (elS x d k) := by cases x <;> first | exact h1 | exact h2 _ _
theorem s_elP {k : Id → Nat → Ox} (h1 : Same h d) (h2 : ∀ (a : Id) (b : Nat), Same h (k a b)) : Same h (elP x d k) := by cases x <;> first | exact h1 | exact h2 _ _
theorem s_elSl {k : Id → Nat → Nat → Option Nat → Ox} (h1 : Same h d) (h2 : ∀ (a : Id) (b c : Nat) (d : Option Nat), Same h (k a b c d)) : Same h (elSl x d k) := by cases x <;> first | exact h1 | exact h2 _ _ _ _
theorem s_elM {k : Id → Ox} (h1 : Same h d) (h2 : ∀ (a : Id), Same h (k a)) : Same h (elM x d k) := by cases x <;> first | exact h1 | exact h2 _
theorem s_elFn {k : Nat → List V → List V → Ox} (h1 : Same h d) (h2 : ∀ (a : Nat) (b c : List V), Same h (k a b c)) : Same h (elFn x d k) := by cases x <;> first | exact h1 | exact h2 _ _ _
theorem s_elIc {k : Nat → V → Ox} (h1 : Same h d) (h2 : ∀ (a : Nat) (b : V), Same h (k a b)) : Same h (elIc x d k) := by cases x <;> first | exact h1 | exact h2 _ _
theorem s_elAg {k : T V → Ox} (h1 : Same h d) (h2 : ∀ (a : T V), Same h (k a)) : Same h (elAg x d k) := by cases x <;> first | exact h1 | exact h2 _
theorem s_elTu {k : List V → Ox} (h1 : Same h d) (h2 : ∀ (a : List V), Same h (k a)) : Same h (elTu x d k) := by cases x <;> first | exact h1 | exact h2 _
theorem s_elN {k : Nat → Ox} (h1 : Same h d) (h2 : ∀ n, Same h (k n)) : Same h (elN x d k) := s_elI h1 fun _ _ => s_int h2 fun _ => h1
end
theorem same_load1 (x : V) (h : Hp) : Same h (load1 x h) := by
  unfold load1
  repeat' (first | exact trivial | exact rfl | apply s_ite | apply s_bool | apply s_int | apply s_elB | apply s_elI | apply s_elF | apply s_elS | apply s_elP | apply s_elSl | apply s_elM | apply s_elFn | apply s_elIc | apply s_elAg | apply s_elTu | apply s_elN | intro _ | split)
theorem same_loadN (n : Nat) (x : V) (h : Hp) : Same h (loadN n x h) := by
  unfold loadN
  repeat' (first | exact trivial | exact rfl | apply s_ite | apply s_bool | apply s_int | apply s_elB | apply s_elI | apply s_elF | apply s_elS | apply s_elP | apply s_elSl | apply s_elM | apply s_elFn | apply s_elIc | apply s_elAg | apply s_elTu | apply s_elN | intro _ | split)
theorem same_fieldA (n : Nat) (x : V) (h : Hp) : Same h (fieldA n x h) := by
  unfold fieldA
  repeat' (first | exact trivial | exact rfl | apply s_ite | apply s_bool | apply s_int | apply s_elB | apply s_elI | apply s_elF | apply s_elS | apply s_elP | apply s_elSl | apply s_elM | apply s_elFn | apply s_elIc | apply s_elAg | apply s_elTu | apply s_elN | intro _ | split)
theorem same_chk (x : V) (h : Hp) : Same h (chk x h) := by
  unfold chk
  repeat' (first | exact trivial | exact rfl | apply s_ite | apply s_bool | apply s_int | apply s_elB | apply s_elI | apply s_elF | apply s_elS | apply s_elP | apply s_elSl | apply s_elM | apply s_elFn | apply s_elIc | apply s_elAg | apply s_elTu | apply s_elN | intro _ | split)
theorem same_idxS (n : Nat) (x y : V) (h : Hp) : Same h (idxS n x y h) := by
  unfold idxS
  repeat' (first | exact trivial | exact rfl | apply s_ite | apply s_bool | apply s_int | apply s_elB | apply s_elI | apply s_elF | apply s_elS | apply s_elP | apply s_elSl | apply s_elM | apply s_elFn | apply s_elIc | apply s_elAg | apply s_elTu | apply s_elN | intro _ | split)
theorem same_idxA (m n : Nat) (x y : V) (h : Hp) : Same h (idxA m n x y h) := by
  unfold idxA
  repeat' (first | exact trivial | exact rfl | apply s_ite | apply s_bool | apply s_int | apply s_elB | apply s_elI | apply s_elF | apply s_elS | apply s_elP | apply s_elSl | apply s_elM | apply s_elFn | apply s_elIc | apply s_elAg | apply s_elTu | apply s_elN | intro _ | split)
theorem same_idxT (x y : V) (h : Hp) : Same h (idxT x y h) := by
  unfold idxT
  repeat' (first | exact trivial | exact rfl | apply s_ite | apply s_bool | apply s_int | apply s_elB | apply s_elI | apply s_elF | apply s_elS | apply s_elP | apply s_elSl | apply s_elM | apply s_elFn | apply s_elIc | apply s_elAg | apply s_elTu | apply s_elN | intro _ | split)
theorem same_idxG (m n : Nat) (x y : V) (h : Hp) : Same h (idxG m n x y h) := by
  unfold idxG
  repeat' (first | exact trivial | exact rfl | apply s_ite | apply s_bool | apply s_int | apply s_elB | apply s_elI | apply s_elF | apply s_elS | apply s_elP | apply s_elSl | apply s_elM | apply s_elFn | apply s_elIc | apply s_elAg | apply s_elTu | apply s_elN | intro _ | split)
theorem same_fldV (n : Nat) (x : V) (h : Hp) : Same h (fldV n x h) := by
  unfold fldV
  repeat' (first | exact trivial | exact rfl | apply s_ite | apply s_bool | apply s_int | apply s_elB | apply s_elI | apply s_elF | apply s_elS | apply s_elP | apply s_elSl | apply s_elM | apply s_elFn | apply s_elIc | apply s_elAg | apply s_elTu | apply s_elN | intro _ | split)
theorem same_cutT (l : Nat) (u : Option Nat) (x : V) (h : Hp) : Same h (cutT l u x h) := by
  unfold cutT
  repeat' (first | exact trivial | exact rfl | apply s_ite | apply s_bool | apply s_int | apply s_elB | apply s_elI | apply s_elF | apply s_elS | apply s_elP | apply s_elSl | apply s_elM | apply s_elFn | apply s_elIc | apply s_elAg | apply s_elTu | apply s_elN | intro _ | split)
theorem same_cutA (m n l : Nat) (u : Option Nat) (x : V) (h : Hp) : Same h (cutA' m n l u x h) := by
  unfold cutA'
  repeat' (first | exact trivial | exact rfl | apply s_ite | apply s_bool | apply s_int | apply s_elB | apply s_elI | apply s_elF | apply s_elS | apply s_elP | apply s_elSl | apply s_elM | apply s_elFn | apply s_elIc | apply s_elAg | apply s_elTu | apply s_elN | intro _ | split)
theorem same_cutS (n l : Nat) (u m : Option Nat) (x : V) (h : Hp) : Same h (cutS n l u m x h) := by
  unfold cutS
  repeat' (first | exact trivial | exact rfl | apply s_ite | apply s_bool | apply s_int | apply s_elB | apply s_elI | apply s_elF | apply s_elS | apply s_elP | apply s_elSl | apply s_elM | apply s_elFn | apply s_elIc | apply s_elAg | apply s_elTu | apply s_elN | intro _ | split)
theorem same_ofB (o : Option Value) (h : Hp) : Same h (ofB o h) := by
  unfold ofB
  repeat' (first | exact trivial | exact rfl | apply s_ite | apply s_bool | apply s_int | apply s_elB | apply s_elI | apply s_elF | apply s_elS | apply s_elP | apply s_elSl | apply s_elM | apply s_elFn | apply s_elIc | apply s_elAg | apply s_elTu | apply s_elN | intro _ | split)
theorem same_intF (op : BinOp) (f : IntKind → Nat → Nat → V) (x y : V) (h : Hp) : Same h (intF op f x y h) := by
  unfold intF
  repeat' (first | exact trivial | exact rfl | exact same_ofB .. | apply s_ite | apply s_bool | apply s_int | apply s_elB | apply s_elI | apply s_elF | apply s_elS | apply s_elP | apply s_elSl | apply s_elM | apply s_elFn | apply s_elIc | apply s_elAg | apply s_elTu | apply s_elN | intro _ | split)
theorem same_cmpF2 (op : BinOp) (m n : Nat) (h : Hp) : Same h (cmpF2 op m n h) := by
  unfold cmpF2
  repeat' (first | exact trivial | exact rfl | exact same_ofB .. | apply s_ite | apply s_bool | apply s_int | apply s_elB | apply s_elI | apply s_elF | apply s_elS | apply s_elP | apply s_elSl | apply s_elM | apply s_elFn | apply s_elIc | apply s_elAg | apply s_elTu | apply s_elN | intro _ | split)
theorem same_cmpFl (op : BinOp) (x y : V) (h : Hp) : Same h (cmpFl op x y h) := by
  unfold cmpFl
  repeat' (first | exact trivial | exact rfl | exact same_ofB .. | exact same_cmpF2 .. | apply s_ite | apply s_bool | apply s_int | apply s_elB | apply s_elI | apply s_elF | apply s_elS | apply s_elP | apply s_elSl | apply s_elM | apply s_elFn | apply s_elIc | apply s_elAg | apply s_elTu | apply s_elN | intro _ | split)
theorem same_ltT (f : Nat → Nat → Nat → Nat → Bool) (x y : V) (h : Hp) : Same h (ltT f x y h) := by
  unfold ltT
  repeat' (first | exact trivial | exact rfl | exact same_ofB .. | exact same_cmpF2 .. | apply s_ite | apply s_bool | apply s_int | apply s_elB | apply s_elI | apply s_elF | apply s_elS | apply s_elP | apply s_elSl | apply s_elM | apply s_elFn | apply s_elIc | apply s_elAg | apply s_elTu | apply s_elN | intro _ | split)
theorem same_catT (x y : V) (h : Hp) : Same h (catT x y h) := by
  unfold catT
  repeat' (first | exact trivial | exact rfl | exact same_ofB .. | exact same_cmpF2 .. | apply s_ite | apply s_bool | apply s_int | apply s_elB | apply s_elI | apply s_elF | apply s_elS | apply s_elP | apply s_elSl | apply s_elM | apply s_elFn | apply s_elIc | apply s_elAg | apply s_elTu | apply s_elN | intro _ | split)
theorem same_ofBool (neg : Bool) (o : Option Bool) (h : Hp) : Same h (ofBool neg o h) := by
  unfold ofBool
  repeat' (first | exact trivial | exact rfl | exact same_ofB .. | exact same_cmpF2 .. | apply s_ite | apply s_bool | apply s_int | apply s_elB | apply s_elI | apply s_elF | apply s_elS | apply s_elP | apply s_elSl | apply s_elM | apply s_elFn | apply s_elIc | apply s_elAg | apply s_elTu | apply s_elN | intro _ | split)
theorem same_eqIV (c neg : Bool) (x y : V) (h : Hp) : Same h (eqIV c neg x y h) := by
  unfold eqIV
  repeat' (first | exact trivial | exact rfl | exact same_ofB .. | exact same_cmpF2 .. | exact same_ofBool .. | apply s_ite | apply s_bool | apply s_int | apply s_elB | apply s_elI | apply s_elF | apply s_elS | apply s_elP | apply s_elSl | apply s_elM | apply s_elFn | apply s_elIc | apply s_elAg | apply s_elTu | apply s_elN | intro _ | split)
theorem same_eq3 (x y : V) (h : Hp) : Same h (eq3 x y h) := by
  unfold eq3
  repeat' (first | exact trivial | exact rfl | exact same_ofB .. | exact same_cmpF2 .. | exact same_ofBool .. | apply s_ite | apply s_bool | apply s_int | apply s_elB | apply s_elI | apply s_elF | apply s_elS | apply s_elP | apply s_elSl | apply s_elM | apply s_elFn | apply s_elIc | apply s_elAg | apply s_elTu | apply s_elN | intro _ | split)
theorem same_divF (r : Bool) (x y : V) (h : Hp) : Same h (divF r x y h) := by
  unfold divF
  repeat' (first | exact trivial | exact rfl | exact same_ofB .. | exact same_cmpF2 .. | exact same_ofBool .. | apply s_ite | apply s_bool | apply s_int | apply s_elB | apply s_elI | apply s_elF | apply s_elS | apply s_elP | apply s_elSl | apply s_elM | apply s_elFn | apply s_elIc | apply s_elAg | apply s_elTu | apply s_elN | intro _ | split)
theorem same_shlF (x y : V) (h : Hp) : Same h (shlF x y h) := by
  unfold shlF
  repeat' (first | exact trivial | exact rfl | exact same_ofB .. | exact same_cmpF2 .. | exact same_ofBool .. | apply s_ite | apply s_bool | apply s_int | apply s_elB | apply s_elI | apply s_elF | apply s_elS | apply s_elP | apply s_elSl | apply s_elM | apply s_elFn | apply s_elIc | apply s_elAg | apply s_elTu | apply s_elN | intro _ | split)
theorem same_shrF (x y : V) (h : Hp) : Same h (shrF x y h) := by
  unfold shrF
  repeat' (first | exact trivial | exact rfl | exact same_ofB .. | exact same_cmpF2 .. | exact same_ofBool .. | apply s_ite | apply s_bool | apply s_int | apply s_elB | apply s_elI | apply s_elF | apply s_elS | apply s_elP | apply s_elSl | apply s_elM | apply s_elFn | apply s_elIc | apply s_elAg | apply s_elTu | apply s_elN | intro _ | split)
theorem same_notV (x : V) (h : Hp) : Same h (notV x h) := by
  unfold notV
  repeat' (first | exact trivial | exact rfl | exact same_ofB .. | exact same_cmpF2 .. | exact same_ofBool .. | apply s_ite | apply s_bool | apply s_int | apply s_elB | apply s_elI | apply s_elF | apply s_elS | apply s_elP | apply s_elSl | apply s_elM | apply s_elFn | apply s_elIc | apply s_elAg | apply s_elTu | apply s_elN | intro _ | split)
theorem same_negV (x : V) (h : Hp) : Same h (negV x h) := by
  unfold negV
  repeat' (first | exact trivial | exact rfl | exact same_ofB .. | exact same_cmpF2 .. | exact same_ofBool .. | apply s_ite | apply s_bool | apply s_int | apply s_elB | apply s_elI | apply s_elF | apply s_elS | apply s_elP | apply s_elSl | apply s_elM | apply s_elFn | apply s_elIc | apply s_elAg | apply s_elTu | apply s_elN | intro _ | split)
theorem same_comV (x : V) (h : Hp) : Same h (comV x h) := by
  unfold comV
  repeat' (first | exact trivial | exact rfl | exact same_ofB .. | exact same_cmpF2 .. | exact same_ofBool .. | apply s_ite | apply s_bool | apply s_int | apply s_elB | apply s_elI | apply s_elF | apply s_elS | apply s_elP | apply s_elSl | apply s_elM | apply s_elFn | apply s_elIc | apply s_elAg | apply s_elTu | apply s_elN | intro _ | split)
theorem same_convI (k : IntKind) (x : V) (h : Hp) : Same h (convI k x h) := by
  unfold convI
  repeat' (first | exact trivial | exact rfl | exact same_ofB .. | exact same_cmpF2 .. | exact same_ofBool .. | apply s_ite | apply s_bool | apply s_int | apply s_elB | apply s_elI | apply s_elF | apply s_elS | apply s_elP | apply s_elSl | apply s_elM | apply s_elFn | apply s_elIc | apply s_elAg | apply s_elTu | apply s_elN | intro _ | split)
theorem same_convF (x : V) (h : Hp) : Same h (convF x h) := by
  unfold convF
  repeat' (first | exact trivial | exact rfl | exact same_ofB .. | exact same_cmpF2 .. | exact same_ofBool .. | apply s_ite | apply s_bool | apply s_int | apply s_elB | apply s_elI | apply s_elF | apply s_elS | apply s_elP | apply s_elSl | apply s_elM | apply s_elFn | apply s_elIc | apply s_elAg | apply s_elTu | apply s_elN | intro _ | split)
theorem same_convBS (x : V) (h : Hp) : Same h (convBS x h) := by
  unfold convBS
  repeat' (first | exact trivial | exact rfl | exact same_ofB .. | exact same_cmpF2 .. | exact same_ofBool .. | apply s_ite | apply s_bool | apply s_int | apply s_elB | apply s_elI | apply s_elF | apply s_elS | apply s_elP | apply s_elSl | apply s_elM | apply s_elFn | apply s_elIc | apply s_elAg | apply s_elTu | apply s_elN | intro _ | split)
theorem same_extrV (i : Nat) (x : V) (h : Hp) : Same h (extrV i x h) := by
  unfold extrV
  repeat' (first | exact trivial | exact rfl | exact same_ofB .. | exact same_cmpF2 .. | exact same_ofBool .. | apply s_ite | apply s_bool | apply s_int | apply s_elB | apply s_elI | apply s_elF | apply s_elS | apply s_elP | apply s_elSl | apply s_elM | apply s_elFn | apply s_elIc | apply s_elAg | apply s_elTu | apply s_elN | intro _ | split)
theorem same_findM (kd : IntKind) (ok : Bool) (z x y : V) (h : Hp) : Same h (findM kd ok z x y h) := by
  unfold findM
  repeat' (first | exact trivial | exact rfl | exact same_ofB .. | exact same_cmpF2 .. | exact same_ofBool .. | apply s_ite | apply s_bool | apply s_int | apply s_elB | apply s_elI | apply s_elF | apply s_elS | apply s_elP | apply s_elSl | apply s_elM | apply s_elFn | apply s_elIc | apply s_elAg | apply s_elTu | apply s_elN | intro _ | split)
theorem same_lenS (x : V) (h : Hp) : Same h (lenS x h) := by
  unfold lenS
  repeat' (first | exact trivial | exact rfl | exact same_ofB .. | exact same_cmpF2 .. | exact same_ofBool .. | apply s_ite | apply s_bool | apply s_int | apply s_elB | apply s_elI | apply s_elF | apply s_elS | apply s_elP | apply s_elSl | apply s_elM | apply s_elFn | apply s_elIc | apply s_elAg | apply s_elTu | apply s_elN | intro _ | split)
theorem same_lenT (x : V) (h : Hp) : Same h (lenT x h) := by
  unfold lenT
  repeat' (first | exact trivial | exact rfl | exact same_ofB .. | exact same_cmpF2 .. | exact same_ofBool .. | apply s_ite | apply s_bool | apply s_int | apply s_elB | apply s_elI | apply s_elF | apply s_elS | apply s_elP | apply s_elSl | apply s_elM | apply s_elFn | apply s_elIc | apply s_elAg | apply s_elTu | apply s_elN | intro _ | split)
theorem same_mmV (m : Bool) (x y : V) (h : Hp) : Same h (mmV m x y h) := by
  unfold mmV
  repeat' (first | exact trivial | exact rfl | exact same_ofB .. | exact same_cmpF2 .. | exact same_ofBool .. | apply s_ite | apply s_bool | apply s_int | apply s_elB | apply s_elI | apply s_elF | apply s_elS | apply s_elP | apply s_elSl | apply s_elM | apply s_elFn | apply s_elIc | apply s_elAg | apply s_elTu | apply s_elN | intro _ | split)
end
end Go.Ev
/-
  Operations that leave the blocks alone; operations that do nothing but make a block. No program in sight.
-/
namespace Go.Ev
open Go Go.SL Go.RowKit
noncomputable section
def CalmC (c : OpC) : Prop := ∀ hd F h, Same h (c.run hd F h)
theorem c_ite {b : Bool} {x y : OpC} (h1 : CalmC x) (h2 : CalmC y) : CalmC (ite' b x y) := by cases b <;> assumption
theorem c_no (k : Nat) : CalmC (noC k) := fun _ _ _ => trivial
section
variable {P : Program} {env : Env} {big : Bool} {M : Nat → Bool}
theorem c_bnd {x : Option Operand} {F : R} {k : Option Nat → Ox} {h : Hp} (hk : ∀ m, Same h (k m)) : Same h (bnd big M x F k) := by
  unfold bnd
  split
  · exact hk _
  · exact s_elN trivial fun m => hk _
theorem loadC_calm (t : TypeId) (rx : Rd) : CalmC (loadC P t rx) := by
  unfold loadC
  repeat' (first | exact c_no _ | apply c_ite | split)
  · exact fun _ _ _ => same_load1 ..
  · exact fun _ _ _ => same_loadN ..
theorem fieldAC_calm (t : TypeId) (i : Nat) (rx : Rd) : CalmC (fieldAC P t i rx) := by
  unfold fieldAC
  repeat' (first | exact c_no _ | exact fun _ _ _ => same_fieldA .. | apply c_ite | split)
theorem fieldC_calm (t : TypeId) (i : Nat) (rx : Rd) : CalmC (fieldC P t i rx) := by
  unfold fieldC
  repeat' (first | exact c_no _ | exact fun _ _ _ => same_fldV .. | apply c_ite | split)
theorem indexAC_calm (t : TypeId) (rx ry : Rd) : CalmC (indexAC P t rx ry) := by
  unfold indexAC
  repeat' (first | exact c_no _ | exact fun _ _ _ => same_idxS .. | exact fun _ _ _ => same_idxA .. | apply c_ite | split)
theorem indexC_calm (t : TypeId) (rx ry : Rd) : CalmC (indexC P t rx ry) := by
  unfold indexC
  repeat' (first | exact c_no _ | exact fun _ _ _ => same_idxT .. | exact fun _ _ _ => same_idxG .. | apply c_ite | split)
theorem sliceC_calm (t : TypeId) (rx : Rd) (lo hi mx : Option Operand) : CalmC (sliceC P big M t rx lo hi mx) := by
  unfold sliceC
  repeat' (first | exact c_no _ | apply c_ite | split)
  all_goals intro hd F h; dsimp only; refine c_bnd fun _ => c_bnd fun _ => ?_
  · exact same_cutT ..
  · exact same_cutA ..
  · exact c_bnd fun _ => same_cutS ..
theorem buildC_calm (t : TypeId) (ps : Array (Nat × Operand)) : CalmC (buildC P env big M t ps) := by
  unfold buildC
  repeat' (first | exact c_no _ | split)
  all_goals (intro hd F h; show Same h (match _ with | some c => .val (.ag c) h | none => _); split <;> first | exact rfl | exact trivial)
theorem lookC_calm (t : TypeId) (ok : Bool) (rx ry : Rd) : CalmC (lookC P t ok rx ry) := by
  unfold lookC
  repeat' (first | exact c_no _ | exact fun _ _ _ => same_findM .. | split)
theorem moveC_calm (rx : Rd) : CalmC (moveC rx) := fun _ _ _ => rfl
theorem pickC_calm (rc rx ry : Rd) : CalmC (pickC rc rx ry) := fun _ _ _ => s_elB trivial fun _ => rfl
theorem nilC_calm (rx : Rd) : CalmC (nilC rx) := fun _ _ _ => same_chk ..
theorem extrC_calm (i : Nat) (rx : Rd) : CalmC (extrC i rx) := fun _ _ _ => same_extrV ..
theorem funcC_calm (fn : Fn) (fs cs : List Operand) : CalmC (funcC big M fn fs cs) := by
  unfold funcC
  split
  · exact fun _ _ _ => rfl
  · exact c_no _
theorem ifaceC_calm (t : TypeId) (rx : Rd) : CalmC (ifaceC P t rx) := by
  unfold ifaceC
  repeat' (first | exact c_no _ | exact fun _ _ _ => rfl | apply c_ite | split)
theorem unC_calm (op : UnOp) (rx : Rd) : CalmC (unC op rx) := by
  unfold unC
  repeat' (first | exact c_no _ | exact fun _ _ _ => same_notV .. | exact fun _ _ _ => same_negV .. | exact fun _ _ _ => same_comV .. | split)
theorem intC_calm (op : BinOp) (f : IntKind → Nat → Nat → V) (rx ry : Rd) : CalmC (intC op f rx ry) := fun _ _ _ => same_intF ..
theorem eqC_calm (neg : Bool) (t : TypeId) (c : Bool) (rx ry : Rd) : CalmC (eqC P neg t c rx ry) := by
  unfold eqC
  repeat' (first | exact c_no _ | exact fun _ _ _ => same_intF .. | exact fun _ _ _ => same_ofBool .. | exact fun _ _ _ => same_eqIV .. | exact fun _ _ _ => same_cmpFl .. | exact fun _ _ _ => same_eq3 .. | apply c_ite | split)
theorem cmpC_calm (op : BinOp) (t : TypeId) (f : Nat → Nat → Bool) (g : Nat → Nat → Nat → Nat → Bool) (rx ry : Rd) : CalmC (cmpC P op t f g rx ry) := by
  unfold cmpC
  repeat' (first | exact intC_calm _ _ _ _ | exact fun _ _ _ => same_ltT .. | exact fun _ _ _ => same_cmpFl .. | split)
theorem binC_calm (op : BinOp) (t : TypeId) (c : Bool) (rx ry : Rd) : CalmC (binC P op t c rx ry) := by
  unfold binC
  repeat' (first | exact c_no _ | exact intC_calm _ _ _ _ | exact eqC_calm _ _ _ _ _ | exact cmpC_calm _ _ _ _ _ _ | exact fun _ _ _ => same_catT .. | exact fun _ _ _ => same_cmpFl .. | exact fun _ _ _ => same_divF .. | exact fun _ _ _ => same_shlF .. | exact fun _ _ _ => same_shrF .. | split)
def convCalm (P : Program) (s t : TypeId) : Bool := match P.underlying s, P.underlying t with
  | some .string, some (.slice _) => false
  | _, _ => true
theorem same_convSS (x : V) (h : Hp) : Same h (convSS x h) := by
  unfold convSS
  repeat' (first | exact trivial | exact rfl | apply s_ite | split)
theorem convC_calm {s t : TypeId} (hc : convCalm P s t = true) (rx : Rd) : CalmC (convC P s t rx) := by
  unfold convC
  repeat' (first | exact c_no _ | exact fun _ _ _ => same_convI .. | exact fun _ _ _ => same_convF .. | exact fun _ _ _ => same_convSS .. | apply c_ite | split)
  all_goals first
    | (intro hd F h; show Same h (notStr _ (convBS _ h)); unfold notStr; split <;> first | exact trivial | exact same_convBS ..)
    | (rename_i h1 h2 _ _; rw [convCalm, h1, h2] at hc; cases hc)
    | exact fun _ _ _ => s_elS trivial fun _ _ => rfl
    | skip
def calmCall (c : Call) : Bool := match c.callee with
  | .builtin .len => true
  | .builtin .max => true
  | .builtin .min => true
  | _ => false
theorem lenC_calm (t : TypeId) (rx : Rd) : CalmC (lenC P t rx) := by
  unfold lenC
  repeat' (first | exact c_no _ | exact fun _ _ _ => same_lenS .. | exact fun _ _ _ => same_lenT .. | exact fun _ _ _ => rfl | split)
theorem mmC_calm (b : Bool) (rx ry : Rd) : CalmC (mmC b rx ry) := fun _ _ _ => same_mmV ..
def calmB (P : Program) (x : Op) : Bool := match x with
  | .move _ => true
  | .assign _ => true
  | .pick .. => true
  | .load .. => true
  | .nilCheck _ => true
  | .binOp .. => true
  | .unOp .. => true
  | .convert s t _ => convCalm P s t
  | .makeInterface .. => true
  | .makeFunc .. => true
  | .slice .. => true
  | .fieldAddr .. => true
  | .field .. => true
  | .indexAddr .. => true
  | .index .. => true
  | .lookup .. => true
  | .extract .. => true
  | .build .. => true
  | .call c => calmCall c
  | _ => false
theorem calm_ok {x : Op} (hc : calmB P x = true) : CalmC (opC P env big M x) := by
  unfold calmB at hc
  split at hc <;> first | (exact moveC_calm _) | (exact pickC_calm _ _ _) | (exact loadC_calm _ _) | (exact nilC_calm _) | (exact binC_calm _ _ _ _ _) | (exact unC_calm _ _) | (exact convC_calm hc _) | (exact ifaceC_calm _ _) | (exact funcC_calm _ _ _) | (exact sliceC_calm _ _ _ _ _) | (exact fieldAC_calm _ _ _) | (exact fieldC_calm _ _ _) | (exact indexAC_calm _ _ _) | (exact indexC_calm _ _ _) | (exact lookC_calm _ _ _ _) | (exact extrC_calm _ _) | (exact buildC_calm _ _) | skip
  · rename_i c
    unfold calmCall at hc
    show CalmC (calleeC P env big M c.args.toList c.argTypes.toList c.callee)
    generalize c.callee = cl at hc
    split at hc
    · unfold calleeC builtinC
      repeat' (first | exact c_no _ | exact lenC_calm _ _ | exact mmC_calm _ _ _ | split)
      all_goals simp_all
    · unfold calleeC builtinC
      repeat' (first | exact c_no _ | exact lenC_calm _ _ | exact mmC_calm _ _ _ | split)
      all_goals simp_all
    · unfold calleeC builtinC
      repeat' (first | exact c_no _ | exact lenC_calm _ _ | exact mmC_calm _ _ _ | split)
      all_goals simp_all
    · cases hc
  · cases hc
end
end
end Go.Ev
