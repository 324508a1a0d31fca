/-
  The evaluator: regions in every order, all of it together, its runs cut. No program in sight.
-/
import Derived.Test.YtokggoikffcijaaGreatDoorK3
import Derived.Test.YtokggoikffcijaaGreatDoorK1
import Derived.Lib.Bytealg
/-
  Blocks that are made later than they were reckoned; an operation with its guard; equal values. No program in sight.
-/
namespace Go.Ev
open Go Go.SL Go.RowKit
noncomputable section
section
variable {P : Program} {W0 w : World} {φ : Phi} {h : Hp} {o : Oper} {a : Act} {big : Bool} {n : Nat} {M : Nat → Bool} {F : R} {env : Env} {ops : Array Oper}
/-! ### Names without a block -/
theorem Sm.unborn (hs : Sm W0 φ h w) (ob : HO) : Sm W0 φ ⟨h.next.succ, PT.set h.next (some ob) h.mem⟩ w := by
  have hn := (hs.fresh h.next (Nat.le_refl _)).1
  have old : ∀ x o, φ x ≠ none → PT.get x (PT.set h.next (some ob) h.mem) = some o → PT.get x h.mem = some o := fun x o hx hg => by
    rw [PT.get_set, if_neg] at hg
    · exact hg
    · rintro rfl; exact hx hn
  refine ⟨hs.below, fun x o B h1 h2 => hs.own x o B (old x o (by rw [h2]; simp) h1) h2, fun x x' o o' B B' h1 h2 h3 h4 => hs.apart x x' o o' B B' (old x o (by rw [h3]; simp) h1) (old x' o' (by rw [h4]; simp) h2) h3 h4, fun x hx => ?_⟩
  have hx' : h.next.num + 1 ≤ x.num := by rw [← Id.num_succ]; exact hx
  obtain ⟨h1, h2⟩ := hs.fresh x (by omega)
  refine ⟨h1, ?_⟩
  show PT.get x (PT.set h.next (some ob) h.mem) = none
  rw [PT.get_set, if_neg]
  · exact h2
  · rintro rfl; omega
theorem Sm.born (hs : Sm W0 φ h w) {i : Id} {ob : HO} (hi : φ i = none) (hlt : i.num < h.next.num) (hg : PT.get i h.mem = some ob) (x : Obj) {k s : Nat} (ho : ORel (named φ i ⟨w.heap.size, 0, k, s⟩) (w.alloc x) ⟨w.heap.size, 0, k, s⟩ ob) :
    Sm W0 (named φ i ⟨w.heap.size, 0, k, s⟩) h (w.alloc x) := by
  have he := named_ext (B := ⟨w.heap.size, 0, k, s⟩) hi
  have own : ∀ x' o B, PT.get x' h.mem = some o → named φ i ⟨w.heap.size, 0, k, s⟩ x' = some B → (x' = i ∧ B = ⟨w.heap.size, 0, k, s⟩ ∧ o = ob) ∨ (x' ≠ i ∧ φ x' = some B ∧ B.b < w.heap.size) := by
    intro x' o B h1 h2
    by_cases e : x' = i
    · subst e
      rw [named_same] at h2
      rw [hg] at h1
      cases h1; cases h2
      exact .inl ⟨rfl, rfl, rfl⟩
    · rw [named_ne e] at h2
      exact .inr ⟨e, h2, (hs.own x' o B h1 h2).2.lt⟩
  refine ⟨hs.below.alloc hs.below.size x, fun x' o B h1 h2 => ?_, fun x1 x2 o1 o2 B1 B2 h1 h2 h3 h4 hne => ?_, fun x' hx' => ?_⟩
  · rcases own x' o B h1 h2 with ⟨rfl, rfl, rfl⟩ | ⟨e, q1, q2⟩
    · exact ⟨hs.below.size, ho⟩
    · obtain ⟨g1, g2⟩ := hs.own x' o B h1 q1
      exact ⟨g1, g2.mono he (Below.heap_alloc w x _ q2)⟩
  · rcases own x1 o1 B1 h1 h3 with ⟨rfl, rfl, rfl⟩ | ⟨e, q1, q2⟩
    · rcases own x2 o2 B2 h2 h4 with ⟨rfl, rfl, rfl⟩ | ⟨e, q1, q2⟩
      · exact absurd rfl hne
      · show w.heap.size ≠ B2.b; omega
    · rcases own x2 o2 B2 h2 h4 with ⟨rfl, rfl, rfl⟩ | ⟨e', q3, q4⟩
      · show B1.b ≠ w.heap.size; omega
      · exact hs.apart x1 x2 o1 o2 B1 B2 h1 h2 q1 q3 hne
  · obtain ⟨g1, g2⟩ := hs.fresh x' hx'
    refine ⟨?_, g2⟩
    rw [named_ne]
    · exact g1
    · rintro rfl; omega
/-- what only makes a block: it may be made later -/
def Birth (P : Program) (big : Bool) (M : Nat → Bool) (o : Oper) (c : OpC) : Prop :=
  ∀ hd F hx v h1, c.run hd F hx = .val v h1 → ∃ ob, h1 = ⟨hx.next.succ, PT.set hx.next (some ob) hx.mem⟩ ∧
    ∀ (φ : Phi) (a : Act) (w : World), RelM φ big M F a → ∃ x k s y, (execOp a.eval o).run P w = .ok (.value y) (w.alloc x) ∧
      ∀ φ', Ext φ φ' → φ' hx.next = some ⟨w.heap.size, 0, k, s⟩ → VR φ' v y ∧ ORel φ' (w.alloc x) ⟨w.heap.size, 0, k, s⟩ ob
theorem row_born {cs : List Value} {t : TypeId} {c : T V} (hc : TR φ c cs) (hok : ∀ x ∈ cs, cellsOk x = true) (s : Nat) {φ' : Phi} (he : Ext φ φ') : ORel φ' (w.alloc (.cells cs.toArray t)) ⟨w.heap.size, 0, cs.length, s⟩ (.row t s c) := by
  refine ⟨⟨rfl, .inr rfl⟩, [], cs, rfl, ⟨[], (0, 0), ?_, by simp, .inl rfl⟩, hc.mono he, hok⟩
  show (w.heap.push _)[w.heap.size]? = _
  simp
theorem allocC_born (he : EnvOK P env) {t : TypeId} (ho : o.op = .alloc t) : Birth P big M o (allocC P env t) := by
  intro hd F hx v h1 hr
  unfold allocC at hr
  split at hr
  · rename_i y hy
    obtain ⟨hi, hz⟩ := tyz_ok he hy
    change newP t 1 y.zt hx = .val v h1 at hr
    unfold newP at hr
    cases hr
    refine ⟨_, rfl, fun φ a w hF => ⟨.cells y.z.cells t, y.z.cells.toList.length, 1, .pointer (some ⟨w.heap.size, 0, none⟩), ?_, fun φ' hex hnm => ⟨VR.p' hnm rfl, ?_⟩⟩⟩
    · have hz' : ∀ w, (zeroValue t).run P w = .ok y.z w := fun w => hi.run_zero
      simp [execOp, ho, Instr.alloc, hz', newVar, Go.newRow]
    · have := row_born (w := w) (t := t) (hz.rel φ) hz.ok 1 hex
      simpa using this
  · cases hr
theorem makeMC_born {t : TypeId} {r : Option Operand} (ho : o.op = .makeMap t r) : Birth P big M o (makeMC P t r) := by
  intro hd F hx v h1 hr
  unfold makeMC at hr
  split at hr
  · split at hr
    · rename_i kd _
      change newM kd hx = .val v h1 at hr
      unfold newM at hr
      cases hr
      refine ⟨_, rfl, fun φ a w hF => ⟨.map #[] 0, 0, 0, .map (some w.heap.size), by simp [execOp, ho, Instr.makeMap], fun φ' hex hnm => ⟨by unfold VR; exact ⟨_, hnm, rfl⟩, [], rfl, ?_⟩⟩⟩
      show (w.heap.push _)[w.heap.size]? = _
      simp
    · cases hr
  · cases hr
theorem buildSC_born (he : EnvOK P env) {t : TypeId} {len : Nat} {ps : Array (Nat × Operand)} (ho : o.op = .buildSlice t len ps) : Birth P big M o (buildSC P env big M t len ps) := by
  intro hd F hx v h1 hr
  unfold buildSC at hr
  split at hr
  · rename_i e hu
    split at hr
    · rename_i y hy
      obtain ⟨i1, i2⟩ := tyz_ok he hy
      cases hb : (Bool.and (Nat.ble 1 y.size) (Bool.and (Nat.beq y.z.cells.size y.size) (le24 (len * y.size)))) with
      | false => rw [hb] at hr; cases hr
      | true =>
        rw [hb] at hr
        simp only [Bool.and_eq_true] at hb
        have b1 : 0 < y.size := Nat.le_of_ble_eq_true hb.1
        have b2 : y.z.cells.size = y.size := Nat.eq_of_beq_eq_true hb.2.1
        have b3 := lim24 hb.2.2
        clear hb
        change buildSV e y len (parts big M ps.toList F) hx = .val v h1 at hr
        unfold buildSV at hr
        split at hr
        · rename_i c hc
          unfold newS at hr
          cases hr
          refine ⟨_, rfl, fun φ a w hF => ?_⟩
          have hp : PR φ (parts big M ps.toList F) (ps.map fun (i, x) => (i, a.eval x)).toList := by rw [map_pairs]; exact parts_ok hF ps.toList
          have hr1 : TR φ (repT len y.zt) (reps len y.z.cells.toList).toArray.toList := repT_ok (i2.rel φ) len
          have hr2 : ∀ x ∈ (reps len y.z.cells.toList).toArray.toList, cellsOk x = true := reps_ok i2.ok len
          obtain ⟨cs', q1, q2, q3, q4⟩ := fillT_ok (cs := (reps len y.z.cells.toList).toArray) hp hr1 hr2 hc
          have hz : ∀ w, (zeroValue e).run P w = .ok y.z w := fun w => i1.run_zero
          have hsz : ∀ w, (sizeOf e).run P w = .ok y.size w := fun w => i1.run_size
          refine ⟨.cells cs' e, cs'.toList.length, y.size, .slice (some ⟨w.heap.size, 0, none⟩) len len, ?_, fun φ' hex hnm => ⟨VR.sl' hnm (Nat.le_refl _) (.inl rfl) (fun k hk => by cases hk; rfl) (fun hk => by cases hk), ?_⟩⟩
          · have ho' : execOp a.eval o = (do Pure.pure (.value (← Instr.buildSlice t len (ps.map fun (i, x) => (i, a.eval x))))) := by simp [execOp, ho]
            rw [ho']
            have hrun : (Instr.buildSlice t len (ps.map fun (i, x) => (i, a.eval x))).run P w = .ok (.slice (some ⟨w.heap.size, 0, none⟩) len len) (w.alloc (.cells cs' e)) := by
              simp only [Instr.buildSlice, Sem.run_bind, run_underlying hu, Result.andThen_ok, hsz, b3, if_false]
              by_cases h0 : len * y.size = 0
              · have hl0 : len = 0 := by
                  rcases Nat.eq_zero_or_pos len with h | h
                  · exact h
                  · have := Nat.mul_pos h b1; omega
                subst hl0
                have e0 : (reps 0 y.z.cells.toList).toArray = (#[] : Array Value) := by simp [reps]
                rw [e0] at q1
                have e1 : (Array.range 0).map (fun x => (#[] : Array Value)[x % (#[] : Array Value).size]!) = #[] := by simp
                simp only [Nat.zero_mul, if_true, Sem.run_bind, Sem.run_pure, Result.andThen_ok, e1, q1]
                simp [Go.newRow]
              · simp only [h0, if_false, Sem.run_bind, hz, Result.andThen_ok, Sem.run_pure]
                have e1 : (Array.range (len * y.size)).map (fun x => y.z.cells[x % y.z.cells.size]!) = (reps len y.z.cells.toList).toArray := by
                  rw [← zeroRow_reps b2 b1]
                  apply Array.ext'
                  simp [zeroRow, b2]
                rw [e1, q1]
                simp [Go.newRow]
            simp [hrun]
          · have := row_born (w := w) (t := e) q2 q3 y.size hex
            simpa using this
        · cases hr
    · cases hr
  · cases hr
def bthB (o : Oper) : Bool := match o.guard, o.op with
  | none, .alloc _ => true
  | none, .makeMap _ _ => true
  | none, .buildSlice _ _ _ => true
  | _, _ => false
theorem bth_ok (he : EnvOK P env) (hb : bthB o = true) : o.guard = none ∧ Birth P big M o (opC P env big M o.op) := by
  unfold bthB at hb
  split at hb
  · rename_i t hg ho; refine ⟨hg, ?_⟩; rw [ho]; exact allocC_born he ho
  · rename_i t r hg ho; refine ⟨hg, ?_⟩; rw [ho]; exact makeMC_born ho
  · rename_i t l ps hg ho; refine ⟨hg, ?_⟩; rw [ho]; exact buildSC_born he ho
  · cases hb
/-! ### An operation with its guard -/
def evC (P : Program) (env : Env) (big : Bool) (M : Nat → Bool) (ops : Array Oper) (o : Oper) : OpC := match o.guard with
  | none => opC P env big M o.op
  | some (j, b) => match (ops[j]?).bind (·.dst) with
    | some t => ite' (M t) ⟨fun hd F h => elB ((rdT big t).get F) (elTu ((rdT big t).get F) (.no 600) fun _ => .skip h) fun b' => ite' (beqB b b') ((opC P env big M o.op).run hd F h) (.skip h)⟩ (noC 601)
    | none => noC 602
def GOK (P : Program) (W0 : World) (ops : Array Oper) (o : Oper) (φ : Phi) (h : Hp) (a : Act) (w : World) : Ox → Prop
  | .val v h' => ∀ K Q, (∀ φ' y w', St φ φ' h h' → Sm W0 φ' h' w' → VR φ' v y → K (a.put o.dst y) w') → oneO P ops Q o K a w
  | .skip h' => ∀ K Q, (∀ φ' w', St φ φ' h h' → Sm W0 φ' h' w' → K (a.put o.dst undef) w') → oneO P ops Q o K a w
  | _ => True
theorem GOK.of {x : Ox} (hx : OpOK P W0 o φ h a w x) (hwant : Region.wanted o (yielded ops a.tmps) = true) : GOK P W0 ops o φ h a w x := by
  cases x with
  | val v h' => intro K Q k; unfold oneO; rw [if_pos hwant]; exact .inl (hx K Q k)
  | skip h' => intro K Q k; unfold oneO; rw [if_pos hwant]; exact .inl (hx K Q k)
  | pan v h' => trivial
  | no c => trivial
theorem RelM.yielded {j t : Nat} {b : Bool} (hF : RelM φ big M F a) (h1 : (ops[j]?).bind (·.dst) = some t) (h2 : t < a.tmps.size) (hz : M t = true) (h3 : (rdT big t).get F = .b b) : yielded ops a.tmps j = some b := by
  have ht := hF t hz
  rw [h3] at ht
  have ht := ht.b
  unfold Go.yielded
  rw [h1]
  simp only [Option.bind_some]
  have e : a.tmps[t]? = some (Value.bool b) := by
    simp only [Array.getD, h2, dif_pos] at ht
    simp only [h2, getElem?_pos]
    exact congrArg some ht
  rw [e]
theorem RelM.unyielded {j t : Nat} {l : List V} (hF : RelM φ big M F a) (h1 : (ops[j]?).bind (·.dst) = some t) (h2 : t < a.tmps.size) (hz : M t = true) (h3 : (rdT big t).get F = .tu l) : Go.yielded ops a.tmps j = none := by
  have ht := hF t hz
  rw [h3] at ht
  unfold VR at ht
  obtain ⟨ys, ht, _⟩ := ht
  unfold Go.yielded
  rw [h1]
  simp only [Option.bind_some]
  have e : a.tmps[t]? = some (Value.tuple ys) := by
    simp only [Array.getD, h2, dif_pos] at ht
    simp only [h2, getElem?_pos]
    exact congrArg some ht
  rw [e]
theorem evC_ok (he : EnvOK P env) {hd : Hd} (hhd : HdOK P W0 hd) (hF : RelM φ big M F a) (hM : ∀ t, M t = true → t < a.tmps.size) (hs : Sm W0 φ h w) : GOK P W0 ops o φ h a w ((evC P env big M ops o).run hd F h) := by
  unfold evC
  split
  · rename_i hg
    exact GOK.of (opC_ok he hd hhd φ F h a w hF hs) (by unfold Region.wanted; rw [hg])
  · rename_i j b hg
    split
    · rename_i t ht
      cases hMt : M t with
      | false => trivial
      | true =>
        show GOK P W0 ops o φ h a w (elB ((rdT big t).get F) (elTu ((rdT big t).get F) (.no 600) fun _ => .skip h) fun b' => ite' (beqB b b') ((opC P env big M o.op).run hd F h) (.skip h))
        have hy : ∀ b', (rdT big t).get F = .b b' → Go.yielded ops a.tmps j = some b' := fun b' e => hF.yielded ht (hM t hMt) hMt e
        have hy0 : ∀ l, (rdT big t).get F = .tu l → Go.yielded ops a.tmps j = none := fun l e => hF.unyielded ht (hM t hMt) hMt e
        have off : Region.wanted o (Go.yielded ops a.tmps) = false → GOK P W0 ops o φ h a w (.skip h) := fun hwf => by
          intro K Q k
          unfold oneO
          rw [if_neg (by rw [hwf]; simp)]
          exact k φ w (St.refl _ _) hs
        generalize (rdT big t).get F = x at hy hy0
        cases x <;> try trivial
        · rename_i b'
          have hy := hy b' rfl
          refine ite_cases (Q := GOK P W0 ops o φ h a w) (fun hb => ?_) (fun hb => ?_)
          · refine GOK.of (opC_ok he hd hhd φ F h a w hF hs) ?_
            unfold Region.wanted
            rw [hg]
            simp [hy, beqB_eq.1 hb]
          · refine off ?_
            unfold Region.wanted
            rw [hg]
            have : ¬ b = b' := fun e => by rw [beqB_eq.2 e] at hb; cases hb
            simp [hy, Ne.symm this]
            first | done | exact fun e => this e.symm | exact this
        · rename_i l
          have hy0 := hy0 l rfl
          refine off ?_
          unfold Region.wanted
          rw [hg]
          simp [hy0]
    · trivial
theorem evC_calm (hc : calmB P o.op = true) : CalmC (evC P env big M ops o) := by
  have h1 := calm_ok (env := env) (big := big) (M := M) hc
  unfold evC
  split
  · exact h1
  · split
    · refine c_ite ?_ (c_no _)
      exact fun hd F h => s_elB (s_elTu trivial fun _ => rfl) fun _ => s_ite (h1 hd F h) rfl
    · exact c_no _
end
end
end Go.Ev
/-
  Equal values by a reckoning. No program in sight.
-/
namespace Go.Ev
open Go Go.SL Go.RowKit
noncomputable section
def vtag (x : V) : Nat := V.rec (motive_1 := fun _ => Nat) (motive_2 := fun _ => PUnit) (motive_3 := fun _ => PUnit) 0 (fun _ => 1) (fun _ _ => 2) (fun _ => 3) (fun _ _ => 4) 5 (fun _ _ => 6) 7 (fun _ _ _ _ => 8) 9 (fun _ => 10) 11 (fun _ _ _ _ _ => 12) 13 (fun _ _ _ => 14) (fun _ _ => 15) (fun _ _ => 16) PUnit.unit (fun _ _ _ _ => PUnit.unit) (fun _ _ _ => PUnit.unit) (fun _ _ => PUnit.unit) (fun _ _ _ _ _ => PUnit.unit) x
def isTag (k : Nat) (y : V) : Bool := Nat.beq k (vtag y)
def oeq (a b : Option Nat) : Bool := Option.rec (motive := fun _ => Bool) (Option.rec (motive := fun _ => Bool) true (fun _ => false) b) (fun n => Option.rec (motive := fun _ => Bool) false (fun m => Nat.beq n m) b) a
def and' (a b : Bool) : Bool := Bool.rec (motive := fun _ => Bool) false b a
theorem and'_iff {a b : Bool} : and' a b = true ↔ a = true ∧ b = true := by cases a <;> cases b <;> simp [and']
def veq (x : V) : V → Bool := V.rec (motive_1 := fun _ => V → Bool) (motive_2 := fun _ => List V → Bool) (motive_3 := fun _ => T V → Bool)
  (isTag 0) (fun b y => elB y false fun c => beqB b c) (fun k z y => elI y false fun k' z' => and' (Nat.beq (kn k) (kn k')) (keyEq z z')) (fun n y => elF y false fun m => Nat.beq n m) (fun n s y => elS y false fun m r => and' (Nat.beq n m) (Nat.beq s r))
  (isTag 5) (fun a o y => elP y false fun b p => and' (Id.beq a b) (Nat.beq o p)) (isTag 7) (fun a o l c y => elSl y false fun b p m d => and' (and' (Id.beq a b) (Nat.beq o p)) (and' (Nat.beq l m) (oeq c d))) (isTag 9) (fun a y => elM y false fun b => Id.beq a b) (isTag 11)
  (fun f _ _ hf hc y => elFn y false fun g fs cs => and' (Nat.beq f g) (and' (hf fs) (hc cs))) (isTag 13) (fun t _ hv y => elIc y false fun s v => and' (Nat.beq t s) (hv v)) (fun _ ht y => elAg y false fun t => ht t) (fun _ hl y => elTu y false fun l => hl l)
  (fun l => List.rec (motive := fun _ => Bool) true (fun _ _ _ => false) l) (fun _ _ hx hl l => List.rec (motive := fun _ => Bool) false (fun y ys _ => and' (hx y) (hl ys)) l)
  (fun n _ ha t => T.rec (motive := fun _ => Bool) (fun m b => and' (Nat.beq n m) (ha b)) (fun _ _ => false) (fun _ _ _ _ _ => false) t) (fun n x t => T.rec (motive := fun _ => Bool) (fun _ _ => false) (fun m y => and' (Nat.beq n m) (Nat.beq x y)) (fun _ _ _ _ _ => false) t)
  (fun h _ _ hl hr t => T.rec (motive := fun _ => Bool) (fun _ _ => false) (fun _ _ => false) (fun k l r _ _ => and' (Nat.beq h k) (and' (hl l) (hr r))) t) x
theorem oeq_eq {a b : Option Nat} (h : oeq a b = true) : a = b := by
  cases a <;> cases b
  · rfl
  · cases h
  · cases h
  · exact congrArg some (Nat.eq_of_beq_eq_true h)
theorem veq_eq (x : V) : ∀ y, veq x y = true → x = y := by
  refine V.rec (motive_1 := fun x => ∀ y, veq x y = true → x = y)
    (motive_2 := fun l => ∀ y, (V.rec_1 (motive_1 := fun _ => V → Bool) (motive_2 := fun _ => List V → Bool) (motive_3 := fun _ => T V → Bool)
  (isTag 0) (fun b y => elB y false fun c => beqB b c) (fun k z y => elI y false fun k' z' => and' (Nat.beq (kn k) (kn k')) (keyEq z z')) (fun n y => elF y false fun m => Nat.beq n m) (fun n s y => elS y false fun m r => and' (Nat.beq n m) (Nat.beq s r))
  (isTag 5) (fun a o y => elP y false fun b p => and' (Id.beq a b) (Nat.beq o p)) (isTag 7) (fun a o l c y => elSl y false fun b p m d => and' (and' (Id.beq a b) (Nat.beq o p)) (and' (Nat.beq l m) (oeq c d))) (isTag 9) (fun a y => elM y false fun b => Id.beq a b) (isTag 11)
  (fun f _ _ hf hc y => elFn y false fun g fs cs => and' (Nat.beq f g) (and' (hf fs) (hc cs))) (isTag 13) (fun t _ hv y => elIc y false fun s v => and' (Nat.beq t s) (hv v)) (fun _ ht y => elAg y false fun t => ht t) (fun _ hl y => elTu y false fun l => hl l)
  (fun l => List.rec (motive := fun _ => Bool) true (fun _ _ _ => false) l) (fun _ _ hx hl l => List.rec (motive := fun _ => Bool) false (fun y ys _ => and' (hx y) (hl ys)) l)
  (fun n _ ha t => T.rec (motive := fun _ => Bool) (fun m b => and' (Nat.beq n m) (ha b)) (fun _ _ => false) (fun _ _ _ _ _ => false) t) (fun n x t => T.rec (motive := fun _ => Bool) (fun _ _ => false) (fun m y => and' (Nat.beq n m) (Nat.beq x y)) (fun _ _ _ _ _ => false) t)
  (fun h _ _ hl hr t => T.rec (motive := fun _ => Bool) (fun _ _ => false) (fun _ _ => false) (fun k l r _ _ => and' (Nat.beq h k) (and' (hl l) (hr r))) t) l : List V → Bool) y = true → l = y)
    (motive_3 := fun t => ∀ y, (V.rec_2 (motive_1 := fun _ => V → Bool) (motive_2 := fun _ => List V → Bool) (motive_3 := fun _ => T V → Bool)
  (isTag 0) (fun b y => elB y false fun c => beqB b c) (fun k z y => elI y false fun k' z' => and' (Nat.beq (kn k) (kn k')) (keyEq z z')) (fun n y => elF y false fun m => Nat.beq n m) (fun n s y => elS y false fun m r => and' (Nat.beq n m) (Nat.beq s r))
  (isTag 5) (fun a o y => elP y false fun b p => and' (Id.beq a b) (Nat.beq o p)) (isTag 7) (fun a o l c y => elSl y false fun b p m d => and' (and' (Id.beq a b) (Nat.beq o p)) (and' (Nat.beq l m) (oeq c d))) (isTag 9) (fun a y => elM y false fun b => Id.beq a b) (isTag 11)
  (fun f _ _ hf hc y => elFn y false fun g fs cs => and' (Nat.beq f g) (and' (hf fs) (hc cs))) (isTag 13) (fun t _ hv y => elIc y false fun s v => and' (Nat.beq t s) (hv v)) (fun _ ht y => elAg y false fun t => ht t) (fun _ hl y => elTu y false fun l => hl l)
  (fun l => List.rec (motive := fun _ => Bool) true (fun _ _ _ => false) l) (fun _ _ hx hl l => List.rec (motive := fun _ => Bool) false (fun y ys _ => and' (hx y) (hl ys)) l)
  (fun n _ ha t => T.rec (motive := fun _ => Bool) (fun m b => and' (Nat.beq n m) (ha b)) (fun _ _ => false) (fun _ _ _ _ _ => false) t) (fun n x t => T.rec (motive := fun _ => Bool) (fun _ _ => false) (fun m y => and' (Nat.beq n m) (Nat.beq x y)) (fun _ _ _ _ _ => false) t)
  (fun h _ _ hl hr t => T.rec (motive := fun _ => Bool) (fun _ _ => false) (fun _ _ => false) (fun k l r _ _ => and' (Nat.beq h k) (and' (hl l) (hr r))) t) t : T V → Bool) y = true → t = y)
    ?_ ?_ ?_ ?_ ?_ ?_ ?_ ?_ ?_ ?_ ?_ ?_ ?_ ?_ ?_ ?_ ?_ ?_ ?_ ?_ ?_ ?_ x
  · intro y h; cases y <;> first | rfl | cases h
  · intro b y h; cases y <;> first | (cases h; done) | exact congrArg V.b (beqB_eq.1 h)
  · intro k z y h
    cases y <;> try (cases h; done)
    obtain ⟨h1, h2⟩ := and'_iff.1 h
    rw [kn_inj h1, (keyEq_iff _ _).1 h2]
  · intro n y h; cases y <;> first | (cases h; done) | exact congrArg V.f (Nat.eq_of_beq_eq_true h)
  · intro n s y h
    cases y <;> try (cases h; done)
    obtain ⟨h1, h2⟩ := and'_iff.1 h
    rw [Nat.eq_of_beq_eq_true h1, Nat.eq_of_beq_eq_true h2]
  · intro y h; cases y <;> first | rfl | cases h
  · intro a o y h
    cases y <;> try (cases h; done)
    obtain ⟨h1, h2⟩ := and'_iff.1 h
    rw [Id.beq_iff.1 h1, Nat.eq_of_beq_eq_true h2]
  · intro y h; cases y <;> first | rfl | cases h
  · intro a o l c y h
    cases y <;> try (cases h; done)
    obtain ⟨h1, h2⟩ := and'_iff.1 h
    obtain ⟨h3, h4⟩ := and'_iff.1 h1
    obtain ⟨h5, h6⟩ := and'_iff.1 h2
    rw [Id.beq_iff.1 h3, Nat.eq_of_beq_eq_true h4, Nat.eq_of_beq_eq_true h5, oeq_eq h6]
  · intro y h; cases y <;> first | rfl | cases h
  · intro a y h; cases y <;> first | (cases h; done) | exact congrArg V.m (Id.beq_iff.1 h)
  · intro y h; cases y <;> first | rfl | cases h
  · intro f fs cs i1 i2 y h
    cases y <;> try (cases h; done)
    obtain ⟨h1, h2⟩ := and'_iff.1 h
    obtain ⟨h3, h4⟩ := and'_iff.1 h2
    rw [Nat.eq_of_beq_eq_true h1, i1 _ h3, i2 _ h4]
  · intro y h; cases y <;> first | rfl | cases h
  · intro t v i1 y h
    cases y <;> try (cases h; done)
    obtain ⟨h1, h2⟩ := and'_iff.1 h
    rw [Nat.eq_of_beq_eq_true h1, i1 _ h2]
  · intro t i1 y h
    cases y <;> try (cases h; done)
    exact congrArg V.ag (i1 _ h)
  · intro l i1 y h
    cases y <;> try (cases h; done)
    exact congrArg V.tu (i1 _ h)
  · intro l h; cases l <;> first | rfl | cases h
  · intro x xs i1 i2 l h
    cases l <;> try (cases h; done)
    obtain ⟨h1, h2⟩ := and'_iff.1 h
    rw [i1 _ h1, i2 _ h2]
  · intro n x i1 t h
    cases t <;> try (cases h; done)
    obtain ⟨h1, h2⟩ := and'_iff.1 h
    rw [Nat.eq_of_beq_eq_true h1, i1 _ h2]
  · intro n x t h
    cases t <;> try (cases h; done)
    obtain ⟨h1, h2⟩ := and'_iff.1 h
    rw [Nat.eq_of_beq_eq_true h1, Nat.eq_of_beq_eq_true h2]
  · intro k l r i1 i2 t h
    cases t <;> try (cases h; done)
    obtain ⟨h1, h2⟩ := and'_iff.1 h
    obtain ⟨h3, h4⟩ := and'_iff.1 h2
    rw [Nat.eq_of_beq_eq_true h1, i1 _ h3, i2 _ h4]
end
end Go.Ev
/-
  A region that draws its order, made ready to run: what is looked at beforehand. No program in sight.
-/
namespace Go.Ev
open Go Go.SL Go.RowKit
noncomputable section
/-! ### What comes before what -/
def edgesOf (o : Oper) : List Nat := (o.after.toList.filter (Region.binds .any ·)).map (·.on)
theorem mem_edges {o : Oper} {k : Nat} : k ∈ edgesOf o ↔ ∃ e ∈ o.after, Region.binds .any e = true ∧ e.on = k := by
  simp [edgesOf]
  constructor
  · rintro ⟨e, ⟨h1, h2⟩, h3⟩; exact ⟨e, h1, h2, h3⟩
  · rintro ⟨e, h1, h2, h3⟩; exact ⟨e, ⟨h1, h2⟩, h3⟩
def maskE (ms : List Nat) (es : List Nat) : Nat := List.rec (motive := fun _ => Nat) 0 (fun e _ m => Nat.lor (Nat.lor (Nat.shiftLeft 1 e) (ms.getD e 0)) m) es
def masks (l : List Oper) : List Nat → List Nat := List.rec (motive := fun _ => List Nat → List Nat) (fun ms => ms) (fun o _ ih ms => ih (ms ++ [maskE ms (edgesOf o)])) l
def anc (ms : List Nat) (i k : Nat) : Bool := Nat.testBit (ms.getD i 0) k
section
variable {ops : Array Oper}
/-- closed under what comes before -/
def Down (ops : Array Oper) (S : Nat → Prop) : Prop := ∀ i, S i → ∀ o, ops[i]? = some o → ∀ e ∈ edgesOf o, S e
def Good (ops : Array Oper) (i m : Nat) : Prop := ∀ S, Down ops S → (∀ o, ops[i]? = some o → ∀ e ∈ edgesOf o, S e) → ∀ k, Nat.testBit m k = true → S k
theorem testBit_one (e k : Nat) : Nat.testBit (Nat.shiftLeft 1 e) k = true → k = e := by
  intro h
  have : Nat.shiftLeft 1 e = 2 ^ e := by show 1 <<< e = _; rw [Nat.one_shiftLeft]
  rw [this, Nat.testBit_two_pow] at h
  simpa [eq_comm] using h
theorem maskE_good {ms : List Nat} (hms : ∀ j, j < ms.length → Good ops j (ms.getD j 0)) : ∀ (es : List Nat) (S : Nat → Prop), Down ops S → (∀ e ∈ es, S e) → ∀ k, Nat.testBit (maskE ms es) k = true → S k
  | [], S, _, _, k, h => by
    have h : Nat.testBit 0 k = true := h
    simp at h
  | e :: es, S, hd, hs, k, h => by
    have h : Nat.testBit (Nat.lor (Nat.lor (Nat.shiftLeft 1 e) (ms.getD e 0)) (maskE ms es)) k = true := h
    have e1 : ∀ a b : Nat, Nat.lor a b = a ||| b := fun _ _ => rfl
    rw [e1, e1, Nat.testBit_or, Nat.testBit_or, Bool.or_eq_true, Bool.or_eq_true] at h
    rcases h with (h | h) | h
    · rw [testBit_one e k h]; exact hs e (by simp)
    · rcases Nat.lt_or_ge e ms.length with hlt | hge
      · exact hms e hlt S hd (fun o ho => hd e (hs e (by simp)) o ho) k h
      · rw [List.getD_eq_getElem?_getD, List.getElem?_eq_none hge] at h; simp at h
    · exact maskE_good hms es S hd (fun e he => hs e (by simp [he])) k h
theorem masks_good : ∀ (l : List Oper) (ms : List Nat), (∀ j, l[j]? = ops[ms.length + j]?) → (∀ j, j < ms.length → Good ops j (ms.getD j 0)) → ∀ j, j < (masks l ms).length → Good ops j ((masks l ms).getD j 0)
  | [], ms, _, h => h
  | o :: l, ms, hl, h => by
    refine masks_good l (ms ++ [maskE ms (edgesOf o)]) (fun j => ?_) (fun j hj => ?_)
    · have := hl (j + 1)
      simp only [List.getElem?_cons_succ] at this
      rw [this]
      simp only [List.length_append, List.length_cons, List.length_nil]
      congr 1
      omega
    · simp only [List.length_append, List.length_cons, List.length_nil] at hj
      rcases Nat.lt_or_ge j ms.length with hlt | hge
      · have := h j hlt
        simp only [List.getD_eq_getElem?_getD] at this ⊢
        rw [List.getElem?_append_left hlt]
        exact this
      · have : j = ms.length := by omega
        subst this
        have e1 : (ms ++ [maskE ms (edgesOf o)]).getD ms.length 0 = maskE ms (edgesOf o) := by simp [List.getD_eq_getElem?_getD]
        rw [e1]
        have ho : ops[ms.length]? = some o := by have := hl 0; simpa using this.symm
        exact fun S hd hs k hk => maskE_good h (edgesOf o) S hd (hs o ho) k hk
/-- what comes before i is there when i's edges are -/
theorem anc_spec {i k : Nat} (h : anc (masks ops.toList []) i k = true) {S : Nat → Prop} (hd : Down ops S) (hs : ∀ o, ops[i]? = some o → ∀ e ∈ edgesOf o, S e) : S k := by
  rcases Nat.lt_or_ge i (masks ops.toList []).length with hlt | hge
  · exact masks_good ops.toList [] (fun j => by simp) (fun j hj => by simp at hj) i hlt S hd hs k h
  · unfold anc at h
    rw [List.getD_eq_getElem?_getD, List.getElem?_eq_none hge] at h
    simp at h
end
/-! ### The plan -/
inductive It where
  | act (i : Nat) | flo (i : Nat) | bth (i : Nat)
def It.ix : It → Nat
  | .act i => i | .flo i => i | .bth i => i
def It.isAct : It → Bool
  | .act _ => true | _ => false
def It.isFlo : It → Bool
  | .flo _ => true | _ => false
def og (ops : Array Oper) (i : Nat) : Oper := ops.getD i default
theorem og_eq {ops : Array Oper} {i : Nat} (h : i < ops.size) : ops[i]? = some (og ops i) := by
  unfold og
  simp [Array.getD, h]
def eqDst (d : Option Nat) (t : Nat) : Bool := match d with
  | some d => Nat.beq d t
  | none => false
theorem eqDst_iff {d : Option Nat} {t : Nat} : eqDst d t = true ↔ d = some t := by
  unfold eqDst
  cases d with
  | none => simp
  | some d => simp
def allL {α : Type} (p : α → Bool) (l : List α) : Bool := List.rec (motive := fun _ => Bool) true (fun x _ ih => and' (p x) ih) l
theorem allL_iff {α : Type} {p : α → Bool} : ∀ {l : List α}, allL p l = true ↔ ∀ x ∈ l, p x = true
  | [] => by simp [allL]
  | x :: l => by
    have := allL_iff (p := p) (l := l)
    show and' (p x) (allL p l) = true ↔ _
    rw [and'_iff, this]; simp
def anyL {α : Type} (p : α → Bool) (l : List α) : Bool := List.rec (motive := fun _ => Bool) false (fun x _ ih => ite' (p x) true ih) l
theorem anyL_iff {α : Type} {p : α → Bool} : ∀ {l : List α}, anyL p l = true ↔ ∃ x ∈ l, p x = true
  | [] => by simp [anyL]
  | x :: l => by
    have := anyL_iff (p := p) (l := l)
    show ite' (p x) true (anyL p l) = true ↔ _
    cases hp : p x with
    | true => show true = true ↔ _; simp [hp]
    | false => show anyL p l = true ↔ _; rw [this]; simp [hp]
/-- the slots that the i-th may read -/
def mayRead (ops : Array Oper) (ms : List Nat) (n : Nat) (plan : List It) (i t : Nat) : Bool :=
  and' (Nat.ble (Nat.succ t) n) (allL (fun x => ite' (eqDst (og ops x.ix).dst t) (and' (not (Nat.beq x.ix i)) (ite' (anc ms i x.ix) true (and' x.isAct (anc ms x.ix i)))) true) plan)
theorem mayRead_iff {ops : Array Oper} {ms : List Nat} {n : Nat} {plan : List It} {i t : Nat} (h : mayRead ops ms n plan i t = true) :
    t < n ∧ ∀ x ∈ plan, (og ops x.ix).dst = some t → x.ix ≠ i ∧ (anc ms i x.ix = true ∨ (x.isAct = true ∧ anc ms x.ix i = true)) := by
  obtain ⟨h1, h2⟩ := and'_iff.1 h
  refine ⟨Nat.le_of_ble_eq_true h1, fun x hx hd => ?_⟩
  have h3 := allL_iff.1 h2 x hx
  rw [eqDst_iff.2 hd] at h3
  have h3 : and' (not (Nat.beq x.ix i)) (ite' (anc ms i x.ix) true (and' x.isAct (anc ms x.ix i))) = true := h3
  obtain ⟨h4, h5⟩ := and'_iff.1 h3
  refine ⟨fun e => by rw [e] at h4; simp at h4, ?_⟩
  cases ha : anc ms i x.ix with
  | true => exact .inl rfl
  | false =>
    rw [ha] at h5
    exact .inr (and'_iff.1 h5)
structure PlanOK (P : Program) (ops : Array Oper) (ms : List Nat) (plan : List It) : Prop where
  nodup : (plan.map It.ix).Nodup
  lt : ∀ x ∈ plan, x.ix < ops.size
  all : ∀ i, i < ops.size → ∃ x ∈ plan, x.ix = i
  order : ∀ A x l, plan = A ++ x :: l → ∀ y ∈ A, (y.isAct = true → anc ms x.ix y.ix = true) ∧ anc ms y.ix x.ix = false
  dsts : ∀ x ∈ plan, ∀ y ∈ plan, x.ix ≠ y.ix → ∀ d, (og ops x.ix).dst = some d → (og ops y.ix).dst ≠ some d
  calm : ∀ i, .flo i ∈ plan → calmB P (og ops i).op = true
  birth : ∀ i, .bth i ∈ plan → bthB (og ops i) = true
  back : ∀ i, i < ops.size → ∀ e ∈ edgesOf (og ops i), e < i
def pairB (ops : Array Oper) (ms : List Nat) (y x : It) : Bool :=
  and' (and' (not (Nat.beq y.ix x.ix)) (not (anc ms y.ix x.ix))) (and' (ite' y.isAct (anc ms x.ix y.ix) true) (match (og ops y.ix).dst with
    | some d => not (eqDst (og ops x.ix).dst d)
    | none => true))
def pairsB (ops : Array Oper) (ms : List Nat) (l : List It) : Bool := List.rec (motive := fun _ => Bool) true (fun y l ih => and' (allL (pairB ops ms y) l) ih) l
def kindB (P : Program) (ops : Array Oper) (x : It) : Bool := and' (Nat.ble (Nat.succ x.ix) ops.size) (match x with
  | .act _ => true
  | .flo i => calmB P (og ops i).op
  | .bth i => bthB (og ops i))
def allBelow (p : Nat → Bool) (k : Nat) : Bool := Nat.rec (motive := fun _ => Bool) true (fun i ih => and' (p i) ih) k
theorem allBelow_iff {p : Nat → Bool} : ∀ {k : Nat}, allBelow p k = true → ∀ i, i < k → p i = true
  | 0, _, i, h => by omega
  | k + 1, hk, i, h => by
    obtain ⟨h1, h2⟩ := and'_iff.1 (show and' (p k) (allBelow p k) = true from hk)
    rcases Nat.lt_or_ge i k with h3 | h3
    · exact allBelow_iff h2 i h3
    · have : i = k := by omega
      subst this; exact h1
def planB (P : Program) (ops : Array Oper) (ms : List Nat) (plan : List It) : Bool :=
  and' (and' (pairsB ops ms plan) (allL (kindB P ops) plan)) (allBelow (fun i => and' (anyL (fun x => Nat.beq x.ix i) plan) (allL (fun e => Nat.blt e i) (edgesOf (og ops i)))) ops.size)
section
variable {P : Program} {ops : Array Oper} {ms : List Nat}
theorem pairsB_iff : ∀ {l : List It}, pairsB ops ms l = true → ∀ A y B x C, l = A ++ y :: (B ++ x :: C) → pairB ops ms y x = true
  | [], _, A, y, B, x, C, e => by simp at e
  | z :: l, h, A, y, B, x, C, e => by
    obtain ⟨h1, h2⟩ := and'_iff.1 (show and' (allL (pairB ops ms z) l) (pairsB ops ms l) = true from h)
    cases A with
    | nil =>
      simp only [List.nil_append, List.cons.injEq] at e
      obtain ⟨rfl, rfl⟩ := e
      exact allL_iff.1 h1 x (by simp)
    | cons a A =>
      simp only [List.cons_append, List.cons.injEq] at e
      obtain ⟨rfl, rfl⟩ := e
      exact pairsB_iff h2 A y B x C rfl
theorem pair_split {α : Type} {x y : α} : ∀ {l : List α}, x ∈ l → y ∈ l → x ≠ y → (∃ A B C, l = A ++ x :: (B ++ y :: C)) ∨ (∃ A B C, l = A ++ y :: (B ++ x :: C))
  | [], h, _, _ => by cases h
  | z :: l, hx, hy, hne => by
    by_cases ex : x = z
    · have hy : y ∈ l := (List.mem_cons.1 hy).resolve_left (fun e => hne (ex.trans e.symm))
      obtain ⟨B, C, e⟩ := List.append_of_mem hy
      exact .inl ⟨[], B, C, by rw [e, ex]; rfl⟩
    · have hx : x ∈ l := (List.mem_cons.1 hx).resolve_left ex
      by_cases ey : y = z
      · obtain ⟨B, C, e⟩ := List.append_of_mem hx
        exact .inr ⟨[], B, C, by rw [e, ey]; rfl⟩
      · have hy : y ∈ l := (List.mem_cons.1 hy).resolve_left ey
        rcases pair_split hx hy hne with ⟨A, B, C, e⟩ | ⟨A, B, C, e⟩
        · exact .inl ⟨z :: A, B, C, by rw [e]; rfl⟩
        · exact .inr ⟨z :: A, B, C, by rw [e]; rfl⟩
theorem pairB_iff {y x : It} (h : pairB ops ms y x = true) : y.ix ≠ x.ix ∧ anc ms y.ix x.ix = false ∧ (y.isAct = true → anc ms x.ix y.ix = true) ∧ ∀ d, (og ops y.ix).dst = some d → (og ops x.ix).dst ≠ some d := by
  obtain ⟨h1, h2⟩ := and'_iff.1 h
  obtain ⟨h3, h4⟩ := and'_iff.1 h1
  obtain ⟨h5, h6⟩ := and'_iff.1 h2
  refine ⟨fun e => by rw [e] at h3; simp at h3, by simpa using h4, fun e => by rw [e] at h5; exact h5, fun d hd e => ?_⟩
  rw [hd] at h6
  simp only at h6
  rw [eqDst_iff.2 e] at h6
  cases h6
theorem planB_ok {plan : List It} (h : planB P ops ms plan = true) : PlanOK P ops ms plan := by
  obtain ⟨h1, h2⟩ := and'_iff.1 h
  obtain ⟨h3, h4⟩ := and'_iff.1 h1
  have hk := allL_iff.1 h4
  have nd : ∀ l : List It, pairsB ops ms l = true → (l.map It.ix).Nodup := by
    intro l
    induction l with
    | nil => intro _; simp
    | cons z l ih =>
      intro hz
      obtain ⟨q1, q2⟩ := and'_iff.1 (show and' (allL (pairB ops ms z) l) (pairsB ops ms l) = true from hz)
      simp only [List.map_cons, List.nodup_cons]
      refine ⟨fun hm => ?_, ih q2⟩
      obtain ⟨x, hx, e⟩ := List.mem_map.1 hm
      exact (pairB_iff (allL_iff.1 q1 x hx)).1 e.symm
  refine ⟨nd plan h3, fun x hx => Nat.le_of_ble_eq_true (and'_iff.1 (hk x hx)).1, fun i hi => ?_, fun A x l e y hy => ?_, fun x hx y hy hne d hd => ?_, fun i hi => (and'_iff.1 (hk _ hi)).2, fun i hi => (and'_iff.1 (hk _ hi)).2, fun i hi e he => Nat.le_of_ble_eq_true (allL_iff.1 (and'_iff.1 (allBelow_iff h2 i hi)).2 e he)⟩
  · obtain ⟨x, hx, e⟩ := anyL_iff.1 (and'_iff.1 (allBelow_iff h2 i hi)).1
    exact ⟨x, hx, Nat.eq_of_beq_eq_true e⟩
  · obtain ⟨A1, A2, rfl⟩ := List.append_of_mem hy
    have := pairB_iff (pairsB_iff h3 A1 y A2 x l (by rw [e]; simp))
    exact ⟨this.2.2.1, this.2.1⟩
  · have hxy : x ≠ y := fun e => hne (by rw [e])
    rcases pair_split hx hy hxy with ⟨A, B, C, e⟩ | ⟨A, B, C, e⟩
    · exact (pairB_iff (pairsB_iff h3 A x B y C e)).2.2.2 d hd
    · exact fun e' => (pairB_iff (pairsB_iff h3 A y B x C e)).2.2.2 d e' hd
end
end
end Go.Ev
/-
  A region that draws its order, made ready to run: the run. No program in sight.
-/
namespace Go.Ev
open Go Go.SL Go.RowKit
noncomputable section
/-! ### A plan: what changes nothing comes as early as it may -/
def tmpsOf (ops : Array Oper) (o : Oper) : List Nat := (match o.guard with
  | some (j, _) => match (ops[j]?).bind (·.dst) with
    | some t => [t]
    | none => []
  | none => []) ++ o.op.operands.toList.filterMap fun x => match x with
  | .tmp t => some t
  | _ => none
def unord (ms : List Nat) (i k : Nat) : Bool := and' (not (Nat.beq i k)) (and' (not (anc ms i k)) (not (anc ms k i)))
def acts0 (P : Program) (ops : Array Oper) : List Nat := (List.range ops.size).filter fun i => ite' (calmB P (og ops i).op) (match (og ops i).dst with
  | some d => anyL (fun q => and' (Nat.blt q i) (anyL (Nat.beq d) (tmpsOf ops (og ops q)))) (List.range ops.size)
  | none => false) true
def late (ops : Array Oper) (ms : List Nat) (as : List Nat) (i : Nat) : Bool := and' (bthB (og ops i)) (anyL (unord ms i) as)
def stageOf (ms : List Nat) (acts : List Nat) (i : Nat) : Nat := (acts.filter (anc ms i)).length
def mixP (rest : List (Nat × It)) (acts : List Nat) : Nat → List It := List.rec (motive := fun _ => Nat → List It) (fun s => (rest.filter fun p => Nat.beq p.1 s).map (·.2)) (fun a _ ih s => (rest.filter fun p => Nat.beq p.1 s).map (·.2) ++ .act a :: ih (Nat.succ s)) acts
def planOf (P : Program) (ops : Array Oper) (ms : List Nat) : List It :=
  let a0 := acts0 P ops
  let acts := a0.filter fun i => not (late ops ms a0 i)
  mixP (((List.range ops.size).filter fun i => not (anyL (Nat.beq i) acts)).map fun i => (stageOf ms acts i, ite' (late ops ms a0 i) (.bth i) (.flo i))) acts 0
/-! ### The run -/
def dstEq (big : Bool) (d : Option Nat) (v : V) (F : R) : Bool := match d with
  | some d => veq v ((rdT big d).get F)
  | none => true
def chkF (big : Bool) (c : OpC) (d : Option Nat) (hd : Hd) (F : R) (h : Hp) : Bool :=
  Ox.rec (motive := fun _ => Bool) (fun v _ => dstEq big d v F) (fun _ => dstEq big d (.tu []) F) (fun _ _ => false) (fun _ => false) (c.run hd F h)
structure ChkC where
  run : Hd → R → Hp → Bool
/-- those that may still come: not before one of the acts -/
def pendB (ms : List Nat) (acts : List It) (y : It) : Bool := and' y.isFlo (not (anyL (fun x => and' x.isAct (anc ms x.ix y.ix)) acts))
structure Ctx where
  P : Program
  env : Env
  big : Bool
  n : Nat
  ops : Array Oper
  ms : List Nat
  plan : List It
def Ctx.M (c : Ctx) (i : Nat) : Nat → Bool := mayRead c.ops c.ms c.n c.plan i
def Ctx.ev (c : Ctx) (i : Nat) : OpC := evC c.P c.env c.big (c.M i) c.ops (og c.ops i)
def Ctx.chk (c : Ctx) (l : List It) : ChkC := List.rec (motive := fun _ => ChkC) ⟨fun _ _ _ => true⟩ (fun x _ ih => ⟨fun hd F h => ite' (chkF c.big (c.ev x.ix) (og c.ops x.ix).dst hd F h) (ih.run hd F h) false⟩) l
def Ctx.pend (c : Ctx) (A : List It) (x : It) : List It := A.filter (pendB c.ms (x :: A))
def floS (c : OpC) (wr : Wr) (rest : StepC) : StepC := ⟨fun hd F h => Ox.rec (motive := fun _ => Rx) (fun v _ => rest.run hd (wr.put v F) h) (fun _ => rest.run hd (wr.put (.tu []) F) h) (fun _ _ => .no 610) (fun k => .no k) (c.run hd F h)⟩
def bthS (c : OpC) (wr : Wr) (ck : ChkC) (rest : StepC) : StepC := ⟨fun hd F h => Ox.rec (motive := fun _ => Rx) (fun v h1 => ite' (ck.run hd (wr.put v F) h1) (rest.run hd (wr.put v F) h1) (.no 611)) (fun _ => .no 612) (fun _ _ => .no 613) (fun k => .no k) (c.run hd F h)⟩
def actS (s : StepC) (ck : ChkC) (rest : StepC) : StepC := ⟨fun hd F h => Rx.rec (motive := fun _ => Rx) (fun F h => ite' (ck.run hd F h) (rest.run hd F h) (.no 614)) (fun v h => .pan v h) (fun k => .no k) (s.run hd F h)⟩
def Ctx.runC (c : Ctx) (l : List It) : List It → StepC := List.rec (motive := fun _ => List It → StepC) (fun _ => nilS) (fun x _ ih A => match x with
  | .flo i => match wrD c.big c.n (og c.ops i).dst with
    | some wr => floS (c.ev i) wr (ih (A ++ [x]))
    | none => noS 615
  | .bth i => match wrD c.big c.n (og c.ops i).dst with
    | some wr => bthS (c.ev i) wr (c.chk (c.pend A x)) (ih (A ++ [x]))
    | none => noS 616
  | .act i => actS (stepC c.P c.env c.big c.n (c.M i) c.ops (og c.ops i)) (c.chk (c.pend A x)) (ih (A ++ [x]))) l
def drawnP (P : Program) (env : Env) (big : Bool) (n : Nat) (ops : Array Oper) (ms : List Nat) (plan : List It) : StepC :=
  ite' (planB P ops ms plan) (Ctx.runC ⟨P, env, big, n, ops, ms, plan⟩ plan []) (noS 617)
def drawnC (P : Program) (env : Env) (big : Bool) (n : Nat) (ops : Array Oper) : StepC :=
  drawnP P env big n ops (masks ops.toList []) (planOf P ops (masks ops.toList []))
end
end Go.Ev
/-
  A region that draws its order, made ready to run: sound whatever the order. No program in sight.
-/
namespace Go.Ev
open Go Go.SL Go.RowKit
noncomputable section
def On (S : Array Bool) (i : Nat) : Prop := S.getD i false = true
def DV (c : Ctx) (i : Nat) (v : V) (F : R) : Prop := ∀ d, (og c.ops i).dst = some d → v = (rdT c.big d).get F
def Agree (c : Ctx) (i : Nat) (G F : R) : Prop := ∀ t, c.M i t = true → (rdT c.big t).get G = (rdT c.big t).get F
def FloOK (c : Ctx) (hd : Hd) (i : Nat) (F : R) (h : Hp) : Prop := ∃ G, Agree c i G F ∧ match (c.ev i).run hd G h with
  | .val v _ => DV c i v F
  | .skip _ => DV c i (.tu []) F
  | _ => False
def Later (c : Ctx) (i : Nat) (b : Id) (ob : HO) (v : V) (G : R) : Prop := ∀ (φ : Phi) (a : Act) (w : World), RelM φ c.big (c.M i) G a → ∃ x k s y, (execOp a.eval (og c.ops i)).run c.P w = .ok (.value y) (w.alloc x) ∧
  ∀ φ', Ext φ φ' → φ' b = some ⟨w.heap.size, 0, k, s⟩ → VR φ' v y ∧ ORel φ' (w.alloc x) ⟨w.heap.size, 0, k, s⟩ ob
def BthOK (c : Ctx) (h0 : Hp) (φ : Phi) (i : Nat) (b : Id) (F : R) (h : Hp) : Prop := h0.next.num ≤ b.num ∧ φ b = none ∧ b.num < h.next.num ∧ ∃ ob v G, PT.get b h.mem = some ob ∧ DV c i v F ∧ Agree c i G F ∧ Later c i b ob v G
structure Inv (c : Ctx) (W0 : World) (hd : Hd) (φ0 : Phi) (h0 : Hp) (D : List Deferred) (S : Array Bool) (a : Act) (w : World) (φ : Phi) (F : R) (h : Hp) (A l : List It) : Prop where
  plan : c.plan = A ++ l
  size : S.size = c.ops.size
  down : Down c.ops (On S)
  sub : ∀ i, On S i → ∃ x ∈ A, x.ix = i
  acts : ∀ x ∈ A, x.isAct = true → On S x.ix
  sm : Sm W0 φ h w
  rel : RelK φ c.big c.n (fun t => ∀ x ∈ A, ¬ On S x.ix → (og c.ops x.ix).dst ≠ some t) F a
  dfr : a.defers = D
  st : St φ0 φ h0 h
  flo : ∀ i, .flo i ∈ A → ¬ On S i → FloOK c hd i F h
  bth : ∃ ids : Nat → Id, ∀ i, .bth i ∈ A → ¬ On S i → BthOK c h0 φ i (ids i) F h ∧ ∀ j, .bth j ∈ A → ¬ On S j → ids i = ids j → i = j
  dlt : ∀ x ∈ A, x.isAct = false → ∀ d, (og c.ops x.ix).dst = some d → d < c.n
section
variable {c : Ctx} {W0 : World} {hd : Hd} {φ0 φ : Phi} {h0 h : Hp} {D : List Deferred} {S : Array Bool} {a : Act} {w : World} {F : R} {A l : List It}
theorem On.set {i j : Nat} (h : On S j) : On (S.setIfInBounds i true) j := getD_set_true h
theorem On.set_self {i : Nat} (h : i < S.size) : On (S.setIfInBounds i true) i := by unfold On; simp [h]
theorem On.of_set {i j : Nat} (hne : j ≠ i) (h : On (S.setIfInBounds i true) j) : On S j := by
  unfold On at *
  rwa [getD_set_ne false (Ne.symm hne)] at h
/-- the i-th may come up -/
structure May (c : Ctx) (S : Array Bool) (i : Nat) : Prop where
  lt : i < c.ops.size
  not : ¬ On S i
  edges : ∀ o, c.ops[i]? = some o → ∀ e ∈ edgesOf o, On S e
theorem May.of_ready {i : Nat} (h : i ∈ Region.ready .any c.ops S) : May c S i := by
  obtain ⟨h1, o, ho, hall⟩ := mem_ready.1 h
  refine ⟨(Array.getElem?_eq_some_iff.1 ho).1, fun hon => ?_, fun o' ho' e he => ?_⟩
  · unfold On at hon
    rcases Nat.lt_or_ge i S.size with h' | h'
    · simp [h'] at h1 hon; rw [h1] at hon; cases hon
    · simp [Array.getElem?_eq_none h'] at h1
  · rw [ho] at ho'
    cases ho'
    obtain ⟨e', he', hb, rfl⟩ := mem_edges.1 he
    exact hall e' he' hb
theorem Inv.reads (I : Inv c W0 hd φ0 h0 D S a w φ F h A l) (hms : c.ms = masks c.ops.toList []) {i : Nat} (hi : May c S i) : ∀ t, c.M i t = true → t < c.n ∧ ∀ x ∈ A, ¬ On S x.ix → (og c.ops x.ix).dst ≠ some t := by
  intro t ht
  obtain ⟨h1, h2⟩ := mayRead_iff ht
  refine ⟨h1, fun x hx hno hd => ?_⟩
  obtain ⟨h3, h4⟩ := h2 x (by rw [I.plan]; simp [hx]) hd
  rcases h4 with h4 | ⟨h4, _⟩
  · rw [hms] at h4
    exact hno (anc_spec h4 I.down hi.edges)
  · exact hno (I.acts x hx h4)
theorem Inv.relM (I : Inv c W0 hd φ0 h0 D S a w φ F h A l) (hms : c.ms = masks c.ops.toList []) {i : Nat} (hi : May c S i) {G : R} (hG : Agree c i G F) : RelM φ c.big (c.M i) G a := by
  intro t ht
  obtain ⟨h1, h2⟩ := I.reads hms hi t ht
  rw [hG t ht]
  exact I.rel.at_ t h1 h2
theorem down_set {i : Nat} (hd : Down c.ops (On S)) (hi : May c S i) : Down c.ops (On (S.setIfInBounds i true)) := by
  intro j hj o ho e he
  by_cases hji : j = i
  · subst hji; exact (hi.edges o ho e he).set
  · exact (hd j (hj.of_set hji) o ho e he).set
/-- a slot that is written at last -/
theorem rel_land (hr : RelK φ c.big c.n (fun t => ∀ x ∈ A, ¬ On S x.ix → (og c.ops x.ix).dst ≠ some t) F a) {φ' : Phi} (he : Ext φ φ') {i : Nat} {v : V} {y : Value} (hv : DV c i v F) (hy : VR φ' v y) :
    RelK φ' c.big c.n (fun t => ∀ x ∈ A, ¬ On (S.setIfInBounds i true) x.ix → (og c.ops x.ix).dst ≠ some t) F (a.put (og c.ops i).dst y) := by
  refine ⟨hr.fit, hr.le, ?_, fun t ht hk => ?_⟩
  · rw [← hr.size]; cases (og c.ops i).dst <;> simp [Act.put]
  · have old : (og c.ops i).dst ≠ some t → VR φ' ((rdT c.big t).get F) (a.tmps.getD t undef) := fun hne => by
      refine (hr.at_ t ht fun x hx hno => ?_).mono he
      by_cases e : x.ix = i
      · rw [e]; exact hne
      · exact hk x hx fun hon => hno (hon.of_set e)
    cases hd : (og c.ops i).dst with
    | none => exact old (by rw [hd]; simp)
    | some d =>
      have hs := hr.size
      simp only [Act.put]
      by_cases e : t = d
      · subst e
        have : (a.tmps.setIfInBounds t y).getD t undef = y := by
          have hlt : t < a.tmps.size := by omega
          simp [Array.getD, hlt]
        rw [this, ← hv t hd]
        exact hy
      · have : (a.tmps.setIfInBounds d y).getD t undef = a.tmps.getD t undef := by
          simp only [Array.getD_eq_getD_getElem?]
          rw [Array.getElem?_setIfInBounds_ne (by omega)]
        rw [this]
        exact old (by rw [hd]; intro h; injection h with h; exact e h.symm)
/-- one that was reckoned before comes up -/
theorem Inv.land_flo (I : Inv c W0 hd φ0 h0 D S a w φ F h A l) (he : EnvOK c.P c.env) (hhd : HdOK c.P W0 hd) (pk : PlanOK c.P c.ops c.ms c.plan) (hms : c.ms = masks c.ops.toList []) {i : Nat} (hi : May c S i) (hA : .flo i ∈ A) {K : Act → World → Prop} {Q : Exit → Act → World → Prop}
    (k : ∀ φ' a' w', Inv c W0 hd φ0 h0 D (S.setIfInBounds i true) a' w' φ' F h A l → K a' w') : oneO c.P c.ops Q (og c.ops i) K a w := by
  obtain ⟨G, g1, g2⟩ := I.flo i hA hi.not
  have hin : It.flo i ∈ c.plan := by rw [I.plan]; simp [hA]
  have hcalm : CalmC (c.ev i) := evC_calm (pk.calm i hin)
  have h1 := evC_ok (P := c.P) (big := c.big) (M := c.M i) (ops := c.ops) (o := og c.ops i) he hhd (I.relM hms hi g1) (fun t ht => by rw [I.rel.size]; exact (I.reads hms hi t ht).1) I.sm
  have h2 := hcalm hd G h
  have fin : ∀ v y φ' w', St φ φ' h h → Sm W0 φ' h w' → DV c i v F → VR φ' v y → K (a.put (og c.ops i).dst y) w' := by
    intro v y φ' w' q1 q2 q3 q4
    have hni : ∀ j, ¬ On (S.setIfInBounds i true) j → ¬ On S j := fun j hj hon => hj hon.set
    obtain ⟨ids, hids⟩ := I.bth
    refine k φ' _ w' ⟨I.plan, by simp [I.size], down_set I.down hi, fun j hj => ?_, fun x hx hac => (I.acts x hx hac).set, q2, rel_land I.rel q1.ext q3 q4, by rw [put_defers]; exact I.dfr, I.st.trans q1, fun j hj hno => I.flo j hj (hni j hno), ⟨ids, fun j hj hno => ?_⟩, I.dlt⟩
    · by_cases e : j = i
      · exact ⟨_, hA, e.symm⟩
      · exact I.sub j (hj.of_set e)
    · obtain ⟨⟨b1, b2, b3, b4⟩, b5⟩ := hids j hj (hni j hno)
      exact ⟨⟨b1, (q1.ub _ b2 b3).1, b3, b4⟩, fun j' hj' hno' => b5 j' hj' (hni j' hno')⟩
  change GOK c.P W0 c.ops (og c.ops i) φ h a w ((c.ev i).run hd G h) at h1
  generalize (c.ev i).run hd G h = x at g2 h1 h2
  cases x with
  | val v h' =>
    have h2 : h' = h := h2
    subst h2
    exact h1 K Q fun φ' y w' q1 q2 q3 => fin v y φ' w' q1 q2 g2 q3
  | skip h' =>
    have h2 : h' = h := h2
    subst h2
    exact h1 K Q fun φ' w' q1 q2 => fin (.tu []) undef φ' w' q1 q2 g2 (VR.tu0 _)
  | pan v h' => exact g2.elim
  | no k => exact g2.elim
/-- a block that was reckoned before comes up -/
theorem Inv.land_bth (I : Inv c W0 hd φ0 h0 D S a w φ F h A l) (he : EnvOK c.P c.env) (pk : PlanOK c.P c.ops c.ms c.plan) (hms : c.ms = masks c.ops.toList []) {i : Nat} (hi : May c S i) (hA : .bth i ∈ A) {K : Act → World → Prop} {Q : Exit → Act → World → Prop}
    (k : ∀ φ' a' w', Inv c W0 hd φ0 h0 D (S.setIfInBounds i true) a' w' φ' F h A l → K a' w') : oneO c.P c.ops Q (og c.ops i) K a w := by
  obtain ⟨ids, hids⟩ := I.bth
  obtain ⟨⟨b1, b2, b3, ob, v, G, b4, b5, b6, b7⟩, b8⟩ := hids i hA hi.not
  have hin : It.bth i ∈ c.plan := by rw [I.plan]; simp [hA]
  obtain ⟨hg, _⟩ := bth_ok (P := c.P) (env := c.env) (big := c.big) (M := c.M i) (o := og c.ops i) he (pk.birth i hin)
  obtain ⟨x, kk, s, y, r1, r2⟩ := b7 φ a w (I.relM hms hi b6)
  have hex := named_ext (B := ⟨w.heap.size, 0, kk, s⟩) b2
  obtain ⟨r3, r4⟩ := r2 _ hex (named_same _ _ _)
  have hsm := I.sm.born b2 b3 b4 x r4
  have hni : ∀ j, ¬ On (S.setIfInBounds i true) j → ¬ On S j := fun j hj hon => hj hon.set
  have hself : On (S.setIfInBounds i true) i := On.set_self (by rw [I.size]; exact hi.lt)
  unfold oneO
  rw [if_pos (by unfold Region.wanted; rw [hg])]
  refine .inl ?_
  unfold Oper.wp
  rw [r1]
  refine k _ _ _ ⟨I.plan, by simp [I.size], down_set I.down hi, fun j hj => ?_, fun x hx hac => (I.acts x hx hac).set, hsm, rel_land I.rel hex b5 r3, by rw [put_defers]; exact I.dfr, ⟨I.st.ext.trans hex, I.st.le, fun z hz hlt => ?_⟩, fun j hj hno => I.flo j hj (hni j hno), ⟨ids, fun j hj hno => ?_⟩, I.dlt⟩
  · by_cases e : j = i
    · exact ⟨_, hA, e.symm⟩
    · exact I.sub j (hj.of_set e)
  · obtain ⟨u1, u2⟩ := I.st.ub z hz hlt
    refine ⟨?_, u2⟩
    rw [named_ne]
    · exact u1
    · rintro rfl; omega
  · obtain ⟨⟨d1, d2, d3, d4⟩, d5⟩ := hids j hj (hni j hno)
    refine ⟨⟨d1, ?_, d3, d4⟩, fun j' hj' hno' => d5 j' hj' (hni j' hno')⟩
    rw [named_ne]
    · exact d2
    · intro e
      have := d5 i hA hi.not e
      subst this
      exact hno hself
theorem chk_iff : ∀ {l : List It} {F : R} {h : Hp}, (c.chk l).run hd F h = true → ∀ x ∈ l, chkF c.big (c.ev x.ix) (og c.ops x.ix).dst hd F h = true
  | [], _, _, _ => by simp
  | y :: l, F, h, hc => by
    change ite' (chkF c.big (c.ev y.ix) (og c.ops y.ix).dst hd F h) ((c.chk l).run hd F h) false = true at hc
    cases hq : chkF c.big (c.ev y.ix) (og c.ops y.ix).dst hd F h with
    | false => rw [hq] at hc; cases hc
    | true =>
      rw [hq] at hc
      intro x hx
      rcases List.mem_cons.1 hx with rfl | hx
      · exact hq
      · exact chk_iff hc x hx
theorem dstEq_iff {i : Nat} {v : V} (hq : dstEq c.big (og c.ops i).dst v F = true) : DV c i v F := by
  intro d hd
  unfold dstEq at hq
  rw [hd] at hq
  exact veq_eq _ _ hq
theorem chkF_ok {i : Nat} (hq : chkF c.big (c.ev i) (og c.ops i).dst hd F h = true) : FloOK c hd i F h := by
  refine ⟨F, fun _ _ => rfl, ?_⟩
  unfold chkF at hq
  generalize (c.ev i).run hd F h = x at hq
  cases x with
  | val v h' => exact dstEq_iff hq
  | skip h' => exact dstEq_iff hq
  | pan v h' => cases hq
  | no k => cases hq
/-- slots that others may read stay when one is written that they do not look at -/
theorem agree_put {j i : Nat} {G F F' : R} (hn : ∀ t, c.M j t = true → t < c.n) (hne : ∀ d, (og c.ops i).dst = some d → c.M j d = false) (hF : ∀ t, t < c.n → (og c.ops i).dst ≠ some t → (rdT c.big t).get F' = (rdT c.big t).get F) (hG : Agree c j G F) : Agree c j G F' := by
  intro t ht
  rw [hG t ht]
  refine (hF t (hn t ht) fun e => ?_).symm
  rw [hne t e] at ht
  cases ht
theorem M_lt {j t : Nat} (h : c.M j t = true) : t < c.n := (mayRead_iff h).1
/-- what one writes, one that comes before it in the plan does not read -/
theorem M_not (pk : PlanOK c.P c.ops c.ms c.plan) {x y : It} (hx : x ∈ c.plan) (h1 : anc c.ms y.ix x.ix = false) (h2 : x.isAct = true → anc c.ms x.ix y.ix = false) {d : Nat} (hd : (og c.ops x.ix).dst = some d) : c.M y.ix d = false := by
  cases hq : c.M y.ix d with
  | false => rfl
  | true =>
    obtain ⟨_, h3⟩ := mayRead_iff hq
    obtain ⟨_, h4 | ⟨h4, h5⟩⟩ := h3 x hx hd
    · rw [h1] at h4; cases h4
    · rw [h2 h4] at h5; cases h5
theorem dv_put (pk : PlanOK c.P c.ops c.ms c.plan) {x y : It} (hx : x ∈ c.plan) (hy : y ∈ c.plan) (hne : x.ix ≠ y.ix) {v : V} {F' : R} (hF : ∀ t, t < c.n → (og c.ops x.ix).dst ≠ some t → (rdT c.big t).get F' = (rdT c.big t).get F) (hlt : ∀ d, (og c.ops y.ix).dst = some d → d < c.n) (hv : DV c y.ix v F) : DV c y.ix v F' := by
  intro d hd
  rw [hv d hd]
  exact (hF d (hlt d hd) (pk.dsts y hy x hx (Ne.symm hne) d hd)).symm
end
end
end Go.Ev
/-
  A region that draws its order, made ready to run: sound whatever the order, put together. No program in sight.
-/
namespace Go.Ev
open Go Go.SL Go.RowKit
noncomputable section
section
variable {c : Ctx} {W0 : World} {hd : Hd} {φ0 φ : Phi} {h0 h : Hp} {D : List Deferred} {S : Array Bool} {a : Act} {w : World} {F : R} {A l : List It} {x : Rx}
theorem fresh_ix (pk : PlanOK c.P c.ops c.ms c.plan) {y : It} (hp : c.plan = A ++ y :: l) {z : It} (hz : z ∈ A) : z.ix ≠ y.ix := by
  have hn := pk.nodup
  rw [hp, List.map_append, List.nodup_append] at hn
  exact fun e => hn.2.2 z.ix (List.mem_map_of_mem hz) y.ix (by simp) e
theorem Inv.step_act {j : Nat} (I : Inv c W0 hd φ0 h0 D S a w φ F h A (.act j :: l)) (he : EnvOK c.P c.env) (hhd : HdOK c.P W0 hd) (pk : PlanOK c.P c.ops c.ms c.plan) (hms : c.ms = masks c.ops.toList []) (hi : May c S j) {K : Act → World → Prop} {Q : Exit → Act → World → Prop}
    (hx : ∀ k, x ≠ .no k) (hrun : (c.runC (.act j :: l) A).run hd F h = x)
    (k : ∀ φ' a' w' F' h', Inv c W0 hd φ0 h0 D (S.setIfInBounds j true) a' w' φ' F' h' (A ++ [.act j]) l → (c.runC l (A ++ [.act j])).run hd F' h' = x → K a' w')
    (hp : ∀ φ' v h' v' w', x = .pan v h' → St φ0 φ' h0 h' → Sm W0 φ' h' w' → VR φ' v v' → Q (.panic [{ v := v', recovered := false }]) a w') : oneO c.P c.ops Q (og c.ops j) K a w := by
  have h1 := stepC_ok (W0 := W0) (n := c.n) (ops := c.ops) (o := og c.ops j) he (M := c.M j) hd hhd _ φ F h a w I.rel (I.reads hms hi) I.sm
  change Rx.rec (motive := fun _ => Rx) (fun F h => ite' ((c.chk (c.pend A (.act j))).run hd F h) ((c.runC l (A ++ [.act j])).run hd F h) (.no 614)) (fun v h => .pan v h) (fun k => .no k) ((stepC c.P c.env c.big c.n (c.M j) c.ops (og c.ops j)).run hd F h) = x at hrun
  generalize (stepC c.P c.env c.big c.n (c.M j) c.ops (og c.ops j)).run hd F h = r at h1 hrun
  have hni : ∀ i, ¬ On (S.setIfInBounds j true) i → ¬ On S i := fun i hq hon => hq hon.set
  cases r with
  | go F' h' =>
    obtain ⟨h2, h3⟩ := h1
    refine h3 K Q fun φ' y w' q1 q2 q3 => ?_
    cases hck : (c.chk (c.pend A (.act j))).run hd F' h' with
    | false =>
      change ite' ((c.chk (c.pend A (.act j))).run hd F' h') _ _ = x at hrun
      rw [hck] at hrun
      exact absurd hrun.symm (hx 614)
    | true =>
      change ite' ((c.chk (c.pend A (.act j))).run hd F' h') _ _ = x at hrun
      rw [hck] at hrun
      have hself : On (S.setIfInBounds j true) j := On.set_self (by rw [I.size]; exact hi.lt)
      have hin : It.act j ∈ c.plan := by rw [I.plan]; simp
      have hinA : ∀ z ∈ A, z ∈ c.plan := fun z hz => by rw [I.plan]; simp [hz]
      have hfr : ∀ z ∈ A, z.ix ≠ j := fun z hz => fresh_ix (y := .act j) pk I.plan hz
      have hanc : ∀ i, ¬ On (S.setIfInBounds j true) i → anc c.ms j i = false := fun i hno => by
        cases hq : anc c.ms j i with
        | false => rfl
        | true =>
          rw [hms] at hq
          exact absurd (anc_spec hq I.down hi.edges) (hni i hno)
      obtain ⟨ids, hids⟩ := I.bth
      refine k φ' _ w' F' h' ⟨by rw [I.plan]; simp, by simp [I.size], down_set I.down hi, fun i hon => ?_, fun z hz hac => ?_, q2, ?_, by rw [put_defers]; exact I.dfr, I.st.trans q1, fun i hm hno => ?_, ⟨ids, fun i hm hno => ?_⟩, fun z hz hac => ?_⟩ hrun
      · by_cases e : i = j
        · exact ⟨.act j, by simp, e.symm⟩
        · obtain ⟨z, hz, e'⟩ := I.sub i (hon.of_set e)
          exact ⟨z, by simp [hz], e'⟩
      · rcases List.mem_append.1 hz with hz | hz
        · exact (I.acts z hz hac).set
        · have : z = .act j := by simpa using hz
          subst this; exact hself
      · refine q3.sub fun t ht => .inl fun z hz hno => ht z (by simp [hz]) fun hon => hno (hon.of_set (hfr z hz))
      · have hm : It.flo i ∈ A := by simpa using hm
        refine chkF_ok (chk_iff hck (.flo i) ?_)
        refine List.mem_filter.2 ⟨hm, ?_⟩
        unfold pendB
        rw [and'_iff]
        refine ⟨rfl, ?_⟩
        cases hq : anyL (fun z => and' z.isAct (anc c.ms z.ix (It.flo i).ix)) (.act j :: A) with
        | false => rfl
        | true =>
          obtain ⟨z, hz, hzz⟩ := anyL_iff.1 hq
          obtain ⟨e1, e2⟩ := and'_iff.1 hzz
          rcases List.mem_cons.1 hz with rfl | hz
          · have := hanc i hno
            rw [show anc c.ms j i = true from e2] at this
            cases this
          · rw [hms] at e2
            have hon := anc_spec e2 I.down (I.down _ (I.acts z hz e1))
            exact absurd hon (hni i hno)
      · have hm : It.bth i ∈ A := by simpa using hm
        obtain ⟨⟨b1, b2, b3, ob, v, G, b4, b5, b6, b7⟩, b8⟩ := hids i hm (hni i hno)
        obtain ⟨u1, u2⟩ := q1.ub _ b2 b3
        refine ⟨⟨b1, u1, Nat.lt_of_lt_of_le b3 q1.le, ob, v, G, u2.trans b4, ?_, ?_, b7⟩, fun i' hm' hno' => b8 i' (by simpa using hm') (hni i' hno')⟩
        · exact dv_put (x := .act j) (y := .bth i) pk hin (hinA _ hm) (Ne.symm (hfr _ hm)) h2 (I.dlt _ hm rfl) b5
        · refine agree_put (i := j) (fun t => M_lt) (fun d hd => ?_) h2 b6
          exact M_not (x := .act j) (y := .bth i) pk hin (pk.order _ _ _ I.plan _ hm).2 (fun _ => hanc i hno) hd
      · rcases List.mem_append.1 hz with hz | hz
        · exact I.dlt z hz hac
        · have : z = .act j := by simpa using hz
          subst this; cases hac
  | pan v h' =>
    refine h1 K Q fun φ' v' w' q1 q2 q3 => hp φ' v h' v' w' hrun.symm (I.st.trans q1) q2 q3
  | no kk => exact absurd hrun.symm (hx kk)
theorem wrD_fit {big : Bool} {n : Nat} {dst : Option Nat} {wr : Wr} (hw : wrD big n dst = some wr) {F : R} (hF : F.fit big) (v : V) : (wr.put v F).fit big := by
  unfold wrD at hw
  split at hw
  · cases hw; exact hF
  · rename_i d
    cases hd : Nat.ble (Nat.succ d) n with
    | false => rw [hd] at hw; cases hw
    | true => rw [hd] at hw; cases hw; exact wr_fit hF _ _
theorem wrD_get {big : Bool} {n : Nat} {d : Nat} {wr : Wr} (hw : wrD big n (some d) = some wr) (hn : n ≤ lim big) {F : R} (hF : F.fit big) (v : V) : d < n ∧ (rdT big d).get (wr.put v F) = v := by
  unfold wrD at hw
  simp only at hw
  cases hd : Nat.ble (Nat.succ d) n with
  | false => rw [hd] at hw; cases hw
  | true =>
    rw [hd] at hw; cases hw
    have hlt := Nat.le_of_ble_eq_true hd
    exact ⟨hlt, by rw [rd_wr hF (Nat.lt_of_lt_of_le hlt hn) (Nat.lt_of_lt_of_le hlt hn), if_pos rfl]⟩
/-- one that leaves the blocks alone is reckoned -/
theorem Inv.take_flo {i : Nat} (I : Inv c W0 hd φ0 h0 D S a w φ F h A (.flo i :: l)) (pk : PlanOK c.P c.ops c.ms c.plan) (hx : ∀ k, x ≠ .no k) (hrun : (c.runC (.flo i :: l) A).run hd F h = x) :
    ∃ F', Inv c W0 hd φ0 h0 D S a w φ F' h (A ++ [.flo i]) l ∧ (c.runC l (A ++ [.flo i])).run hd F' h = x := by
  change (match wrD c.big c.n (og c.ops i).dst with
    | some wr => floS (c.ev i) wr (c.runC l (A ++ [It.flo i]))
    | none => noS 615).run hd F h = x at hrun
  cases hw : wrD c.big c.n (og c.ops i).dst with
  | none => rw [hw] at hrun; exact absurd hrun.symm (hx 615)
  | some wr =>
    rw [hw] at hrun
    have hin : It.flo i ∈ c.plan := by rw [I.plan]; simp
    have hinA : ∀ z ∈ A, z ∈ c.plan := fun z hz => by rw [I.plan]; simp [hz]
    have hfr : ∀ z ∈ A, z.ix ≠ i := fun z hz => fresh_ix (y := .flo i) pk I.plan hz
    have hnot : ¬ On S i := fun hon => by obtain ⟨z, hz, e⟩ := I.sub i hon; exact hfr z hz e
    have fin : ∀ v, (match (c.ev i).run hd F h with
        | .val v' _ => v' = v
        | .skip _ => V.tu [] = v
        | _ => False) → Inv c W0 hd φ0 h0 D S a w φ (wr.put v F) h (A ++ [.flo i]) l := by
      intro v hv
      have hF : ∀ t, t < c.n → (og c.ops i).dst ≠ some t → (rdT c.big t).get (wr.put v F) = (rdT c.big t).get F := (wrD_ok hw I.rel (v := v) (y := undef)).1
      have hdst : ∀ d, (og c.ops i).dst = some d → d < c.n ∧ (rdT c.big d).get (wr.put v F) = v := fun d hd => by
        rw [hd] at hw
        exact wrD_get hw I.rel.le I.rel.fit v
      obtain ⟨ids, hids⟩ := I.bth
      refine ⟨by rw [I.plan]; simp, I.size, I.down, fun j hon => ?_, fun z hz hac => ?_, I.sm, ⟨wrD_fit hw I.rel.fit v, I.rel.le, I.rel.size, fun t ht hk => ?_⟩, I.dfr, I.st, fun j hm hno => ?_, ⟨ids, fun j hm hno => ?_⟩, fun z hz hac d hd => ?_⟩
      · obtain ⟨z, hz, e⟩ := I.sub j hon
        exact ⟨z, by simp [hz], e⟩
      · rcases List.mem_append.1 hz with hz | hz
        · exact I.acts z hz hac
        · have : z = .flo i := by simpa using hz
          subst this; cases hac
      · rw [hF t ht (hk (It.flo i) (by simp) hnot)]
        exact I.rel.at_ t ht fun z hz hno => hk z (by simp [hz]) hno
      · rcases List.mem_append.1 hm with hm | hm
        · obtain ⟨G, g1, g2⟩ := I.flo j hm hno
          refine ⟨G, agree_put (i := i) (fun t => M_lt) (fun d hd => M_not (x := .flo i) (y := .flo j) pk hin (pk.order _ _ _ I.plan _ hm).2 (fun q => by cases q) hd) hF g1, ?_⟩
          have hdv : ∀ v2, DV c j v2 F → DV c j v2 (wr.put v F) := fun v2 hu => dv_put (x := .flo i) (y := .flo j) pk hin (hinA _ hm) (Ne.symm (hfr _ hm)) hF (I.dlt _ hm rfl) hu
          generalize (c.ev j).run hd G h = r at g2
          cases r with
          | val v' h' => exact hdv _ g2
          | skip h' => exact hdv _ g2
          | pan v' h' => exact g2.elim
          | no k => exact g2.elim
        · have : j = i := by simpa using hm
          subst this
          refine ⟨F, fun t ht => (hF t (M_lt ht) fun e => ?_).symm, ?_⟩
          · exact ((mayRead_iff ht).2 (It.flo j) hin e).1 rfl
          · have hdv : DV c j v (wr.put v F) := fun d hd => ((hdst d hd).2).symm
            generalize (c.ev j).run hd F h = r at hv
            cases r with
            | val v' h' => have hv : v' = v := hv; subst hv; exact hdv
            | skip h' => have hv : V.tu [] = v := hv; subst hv; exact hdv
            | pan v' h' => exact hv.elim
            | no k => exact hv.elim
      · have hm : It.bth j ∈ A := by simpa using hm
        obtain ⟨⟨b1, b2, b3, ob, v2, G, b4, b5, b6, b7⟩, b8⟩ := hids j hm hno
        refine ⟨⟨b1, b2, b3, ob, v2, G, b4, ?_, ?_, b7⟩, fun i' hm' hno' => b8 i' (by simpa using hm') hno'⟩
        · exact dv_put (x := .flo i) (y := .bth j) pk hin (hinA _ hm) (Ne.symm (hfr _ hm)) hF (I.dlt _ hm rfl) b5
        · exact agree_put (i := i) (fun t => M_lt) (fun d hd => M_not (x := .flo i) (y := .bth j) pk hin (pk.order _ _ _ I.plan _ hm).2 (fun q => by cases q) hd) hF b6
      · rcases List.mem_append.1 hz with hz | hz
        · exact I.dlt z hz hac d hd
        · have : z = .flo i := by simpa using hz
          subst this; exact (hdst d hd).1
    change Ox.rec (motive := fun _ => Rx) (fun v _ => (c.runC l (A ++ [.flo i])).run hd (wr.put v F) h) (fun _ => (c.runC l (A ++ [.flo i])).run hd (wr.put (.tu []) F) h) (fun _ _ => .no 610) (fun k => .no k) ((c.ev i).run hd F h) = x at hrun
    generalize (c.ev i).run hd F h = r at fin hrun
    cases r with
    | val v h' => exact ⟨_, fin v rfl, hrun⟩
    | skip h' => exact ⟨_, fin (.tu []) rfl, hrun⟩
    | pan v h' => exact absurd hrun.symm (hx 610)
    | no k => exact absurd hrun.symm (hx k)
/-- one that only makes a block is reckoned -/
theorem Inv.take_bth {i : Nat} (I : Inv c W0 hd φ0 h0 D S a w φ F h A (.bth i :: l)) (he : EnvOK c.P c.env) (pk : PlanOK c.P c.ops c.ms c.plan) (hms : c.ms = masks c.ops.toList []) (hx : ∀ k, x ≠ .no k) (hrun : (c.runC (.bth i :: l) A).run hd F h = x) :
    ∃ F' h', Inv c W0 hd φ0 h0 D S a w φ F' h' (A ++ [.bth i]) l ∧ (c.runC l (A ++ [.bth i])).run hd F' h' = x := by
  change (match wrD c.big c.n (og c.ops i).dst with
    | some wr => bthS (c.ev i) wr (c.chk (c.pend A (It.bth i))) (c.runC l (A ++ [It.bth i]))
    | none => noS 616).run hd F h = x at hrun
  cases hw : wrD c.big c.n (og c.ops i).dst with
  | none => rw [hw] at hrun; exact absurd hrun.symm (hx 616)
  | some wr =>
    rw [hw] at hrun
    have hin : It.bth i ∈ c.plan := by rw [I.plan]; simp
    have hinA : ∀ z ∈ A, z ∈ c.plan := fun z hz => by rw [I.plan]; simp [hz]
    have hfr : ∀ z ∈ A, z.ix ≠ i := fun z hz => fresh_ix (y := .bth i) pk I.plan hz
    have hnot : ¬ On S i := fun hon => by obtain ⟨z, hz, e⟩ := I.sub i hon; exact hfr z hz e
    obtain ⟨hg, hbirth⟩ := bth_ok (P := c.P) (env := c.env) (big := c.big) (M := c.M i) (o := og c.ops i) he (pk.birth i hin)
    have hev : c.ev i = opC c.P c.env c.big (c.M i) (og c.ops i).op := by unfold Ctx.ev evC; rw [hg]
    have hb := hbirth hd F h
    rw [← hev] at hb
    change Ox.rec (motive := fun _ => Rx) (fun v h1 => ite' ((c.chk (c.pend A (.bth i))).run hd (wr.put v F) h1) ((c.runC l (A ++ [.bth i])).run hd (wr.put v F) h1) (.no 611)) (fun _ => .no 612) (fun _ _ => .no 613) (fun k => .no k) ((c.ev i).run hd F h) = x at hrun
    generalize (c.ev i).run hd F h = r at hb hrun
    cases r with
    | skip h' => exact absurd hrun.symm (hx 612)
    | pan v h' => exact absurd hrun.symm (hx 613)
    | no k => exact absurd hrun.symm (hx k)
    | val v h1 =>
      obtain ⟨ob, rfl, hlate⟩ := hb v h1 rfl
      cases hck : (c.chk (c.pend A (.bth i))).run hd (wr.put v F) ⟨h.next.succ, PT.set h.next (some ob) h.mem⟩ with
      | false =>
        change ite' ((c.chk (c.pend A (.bth i))).run hd (wr.put v F) ⟨h.next.succ, PT.set h.next (some ob) h.mem⟩) _ _ = x at hrun
        rw [hck] at hrun
        exact absurd hrun.symm (hx 611)
      | true =>
        change ite' ((c.chk (c.pend A (.bth i))).run hd (wr.put v F) ⟨h.next.succ, PT.set h.next (some ob) h.mem⟩) _ _ = x at hrun
        rw [hck] at hrun
        refine ⟨wr.put v F, _, ?_, hrun⟩
        have hF : ∀ t, t < c.n → (og c.ops i).dst ≠ some t → (rdT c.big t).get (wr.put v F) = (rdT c.big t).get F := (wrD_ok hw I.rel (v := v) (y := undef)).1
        have hdst : ∀ d, (og c.ops i).dst = some d → d < c.n ∧ (rdT c.big d).get (wr.put v F) = v := fun d hd => by
          rw [hd] at hw
          exact wrD_get hw I.rel.le I.rel.fit v
        have hnum : h.next.succ.num = h.next.num + 1 := Id.num_succ _
        obtain ⟨ids, hids⟩ := I.bth
        refine ⟨by rw [I.plan]; simp, I.size, I.down, fun j hon => ?_, fun z hz hac => ?_, I.sm.unborn ob, ⟨wrD_fit hw I.rel.fit v, I.rel.le, I.rel.size, fun t ht hk => ?_⟩, I.dfr, ⟨I.st.ext, ?_, fun z hz hlt => ?_⟩, fun j hm hno => ?_, ⟨fun k => if k = i then h.next else ids k, fun j hm hno => ?_⟩, fun z hz hac d hd => ?_⟩
        · obtain ⟨z, hz, e⟩ := I.sub j hon
          exact ⟨z, by simp [hz], e⟩
        · rcases List.mem_append.1 hz with hz | hz
          · exact I.acts z hz hac
          · have : z = .bth i := by simpa using hz
            subst this; cases hac
        · rw [hF t ht (hk (It.bth i) (by simp) hnot)]
          exact I.rel.at_ t ht fun z hz hno => hk z (by simp [hz]) hno
        · show h0.next.num ≤ h.next.succ.num
          have := I.st.le
          omega
        · obtain ⟨u1, u2⟩ := I.st.ub z hz hlt
          refine ⟨u1, ?_⟩
          show PT.get z (PT.set h.next (some ob) h.mem) = _
          rw [PT.get_set, if_neg]
          · exact u2
          · rintro rfl; have := I.st.le; omega
        · have hm : It.flo j ∈ A := by simpa using hm
          refine chkF_ok (chk_iff hck (.flo j) ?_)
          refine List.mem_filter.2 ⟨hm, ?_⟩
          unfold pendB
          rw [and'_iff]
          refine ⟨rfl, ?_⟩
          cases hq : anyL (fun z => and' z.isAct (anc c.ms z.ix (It.flo j).ix)) (.bth i :: A) with
          | false => rfl
          | true =>
            obtain ⟨z, hz, hzz⟩ := anyL_iff.1 hq
            obtain ⟨e1, e2⟩ := and'_iff.1 hzz
            rcases List.mem_cons.1 hz with rfl | hz
            · cases e1
            · rw [hms] at e2
              exact absurd (anc_spec e2 I.down (I.down _ (I.acts z hz e1))) hno
        · by_cases e : j = i
          · subst e
            simp only [if_true]
            refine ⟨⟨I.st.le, (I.sm.fresh _ (Nat.le_refl _)).1, by show h.next.num < h.next.succ.num; omega, ob, v, F, ?_, fun d hd => ((hdst d hd).2).symm, fun t ht => (hF t (M_lt ht) fun e => ?_).symm, hlate⟩, fun k hk hno' e => ?_⟩
            · show PT.get h.next (PT.set h.next (some ob) h.mem) = _
              rw [PT.get_set, if_pos rfl]
            · exact ((mayRead_iff ht).2 (It.bth j) hin e).1 rfl
            · by_cases ek : k = j
              · exact ek.symm
              · rw [if_neg ek] at e
                have hkA : It.bth k ∈ A := by
                  rcases List.mem_append.1 hk with hk | hk
                  · exact hk
                  · exact absurd (by simpa using hk) ek
                have := (hids k hkA hno').1.2.2.1
                rw [← e] at this
                omega
          · dsimp only
            rw [if_neg e]
            have hm : It.bth j ∈ A := by
              rcases List.mem_append.1 hm with hm | hm
              · exact hm
              · exact absurd (by simpa using hm) e
            obtain ⟨⟨b1, b2, b3, ob', v2, G, b4, b5, b6, b7⟩, b8⟩ := hids j hm hno
            refine ⟨⟨b1, b2, by show (ids j).num < h.next.succ.num; omega, ob', v2, G, ?_, ?_, ?_, b7⟩, fun k hk hno' ek => ?_⟩
            · show PT.get (ids j) (PT.set h.next (some ob) h.mem) = _
              rw [PT.get_set, if_neg]
              · exact b4
              · intro e'; rw [e'] at b3; omega
            · exact dv_put (x := .bth i) (y := .bth j) pk hin (hinA _ hm) (Ne.symm (hfr _ hm)) hF (I.dlt _ hm rfl) b5
            · exact agree_put (i := i) (fun t => M_lt) (fun d hd => M_not (x := .bth i) (y := .bth j) pk hin (pk.order _ _ _ I.plan _ hm).2 (fun q => by cases q) hd) hF b6
            · by_cases ek' : k = i
              · rw [if_pos ek'] at ek
                rw [ek] at b3
                omega
              · rw [if_neg ek'] at ek
                have hkA : It.bth k ∈ A := by
                  rcases List.mem_append.1 hk with hk | hk
                  · exact hk
                  · exact absurd (by simpa using hk) ek'
                exact b8 k hkA hno' ek
        · rcases List.mem_append.1 hz with hz | hz
          · exact I.dlt z hz hac d hd
          · have : z = .bth i := by simpa using hz
            subst this; exact (hdst d hd).1
/-- all is reckoned that may be -/
theorem Inv.norm (he : EnvOK c.P c.env) (pk : PlanOK c.P c.ops c.ms c.plan) (hms : c.ms = masks c.ops.toList []) (hx : ∀ k, x ≠ .no k) : ∀ (l A : List It) (F : R) (h : Hp), Inv c W0 hd φ0 h0 D S a w φ F h A l → (c.runC l A).run hd F h = x →
    ∃ A' l' F' h', Inv c W0 hd φ0 h0 D S a w φ F' h' A' l' ∧ (c.runC l' A').run hd F' h' = x ∧ (l' = [] ∨ ∃ j r, l' = .act j :: r)
  | [], A, F, h, I, hrun => ⟨A, [], F, h, I, hrun, .inl rfl⟩
  | .act j :: l, A, F, h, I, hrun => ⟨A, _, F, h, I, hrun, .inr ⟨j, l, rfl⟩⟩
  | .flo i :: l, A, F, h, I, hrun => by
    obtain ⟨F', I', hrun'⟩ := I.take_flo pk hx hrun
    exact Inv.norm he pk hms hx l _ F' h I' hrun'
  | .bth i :: l, A, F, h, I, hrun => by
    obtain ⟨F', h', I', hrun'⟩ := I.take_bth he pk hms hx hrun
    exact Inv.norm he pk hms hx l _ F' h' I' hrun'
/-- all have come up -/
theorem Inv.full (I : Inv c W0 hd φ0 h0 D S a w φ F h A l) (pk : PlanOK c.P c.ops c.ms c.plan) (hrun : (c.runC l A).run hd F h = x) (hl : l = [] ∨ ∃ j r, l = .act j :: r) (hall : ∀ i, i < c.ops.size → On S i) :
    Post W0 c.big c.n φ0 h0 D (toC x) .normal a w := by
  rcases hl with rfl | ⟨j, r, rfl⟩
  · have hrun : Rx.go F h = x := hrun
    subst hrun
    refine ⟨rfl, φ, I.st, I.sm, I.rel.toF fun t ht z hz hno => ?_, I.dfr⟩
    exact absurd (hall z.ix (pk.lt z (by rw [I.plan]; simp [hz]))) hno
  · have hj := hall j (pk.lt (.act j) (by rw [I.plan]; simp))
    obtain ⟨z, hz, e⟩ := I.sub j hj
    exact absurd e (fresh_ix (y := .act j) pk I.plan hz)
theorem drawn_main (he : EnvOK c.P c.env) (hhd : HdOK c.P W0 hd) (pk : PlanOK c.P c.ops c.ms c.plan) (hms : c.ms = masks c.ops.toList []) (hx : ∀ k, x ≠ .no k) : ∀ (fuel : Nat) (S : Array Bool) (a : Act) (w : World) (φ : Phi) (F : R) (h : Hp) (A l : List It) (rest : List Nat),
    (∀ i, i < c.ops.size → ¬ On S i → i ∈ rest) → rest.length ≤ fuel → Inv c W0 hd φ0 h0 D S a w φ F h A l → (c.runC l A).run hd F h = x → wpAny c.P .any c.ops (Post W0 c.big c.n φ0 h0 D (toC x)) fuel S a w := by
  intro fuel
  induction fuel with
  | zero =>
    intro S a w φ F h A l rest hrest hlen I hrun
    have hnil : rest = [] := List.eq_nil_of_length_eq_zero (by omega)
    have hall : ∀ i, i < c.ops.size → On S i := fun i hi => by
      by_cases hon : On S i
      · exact hon
      · have := hrest i hi hon; rw [hnil] at this; cases this
    obtain ⟨A', l', F', h', I', hrun', hl'⟩ := Inv.norm he pk hms hx l A F h I hrun
    refine ⟨?_, I'.full pk hrun' hl' hall⟩
    cases hr : Region.ready .any c.ops S with
    | nil => rfl
    | cons i is =>
      have hm := May.of_ready (c := c) (show i ∈ Region.ready .any c.ops S by rw [hr]; simp)
      exact absurd (hall i hm.lt) hm.not
  | succ fuel ih =>
    intro S a w φ F h A l rest hrest hlen I hrun
    obtain ⟨A', l', F', h', I', hrun', hl'⟩ := Inv.norm he pk hms hx l A F h I hrun
    have next : ∀ i, May c S i → (∀ i', i' < c.ops.size → ¬ On (S.setIfInBounds i true) i' → i' ∈ rest.erase i) ∧ (rest.erase i).length ≤ fuel := fun i hi => by
      have hmem := hrest i hi.lt hi.not
      refine ⟨fun i' hlt hno => ?_, by rw [List.length_erase_of_mem hmem]; omega⟩
      have hne : i' ≠ i := fun e => by subst e; exact hno (On.set_self (by rw [I.size]; exact hlt))
      exact (List.mem_erase_of_ne hne).2 (hrest i' hlt fun hon => hno hon.set)
    refine ⟨fun hr => ?_, fun i hi => ?_⟩
    · refine I'.full pk hrun' hl' fun i hi => ?_
      induction i using Nat.strongRecOn with
      | _ i ihs =>
        by_cases hon : On S i
        · exact hon
        · exfalso
          have hsz := I.size
          have : i ∈ Region.ready .any c.ops S := mem_ready.2 ⟨by
            unfold On at hon
            have : i < S.size := by omega
            simp [this] at hon ⊢
            exact hon, og c.ops i, og_eq hi, fun e he hb => ?_⟩
          · rw [hr] at this; cases this
          · have hme : e.on ∈ edgesOf (og c.ops i) := mem_edges.2 ⟨e, he, hb, rfl⟩
            have hlt := pk.back i hi e.on hme
            exact ihs e.on hlt (by omega)
    · have hm := May.of_ready hi
      obtain ⟨n1, n2⟩ := next i hm
      unfold wpOp
      rw [og_eq hm.lt]
      show oneO c.P c.ops _ (og c.ops i) _ a w
      have pend : (∃ z ∈ A', z.ix = i) → oneO c.P c.ops (Post W0 c.big c.n φ0 h0 D (toC x)) (og c.ops i) (wpAny c.P .any c.ops (Post W0 c.big c.n φ0 h0 D (toC x)) fuel (S.setIfInBounds i true)) a w := by
        rintro ⟨z, hz, e⟩
        cases z with
        | act j => cases e; exact absurd (I'.acts _ hz rfl) hm.not
        | flo j => cases e; exact I'.land_flo he hhd pk hms hm hz fun φ1 a1 w1 I1 => ih _ a1 w1 φ1 F' h' A' l' _ n1 n2 I1 hrun'
        | bth j => cases e; exact I'.land_bth he pk hms hm hz fun φ1 a1 w1 I1 => ih _ a1 w1 φ1 F' h' A' l' _ n1 n2 I1 hrun'
      obtain ⟨z, hz, e⟩ := pk.all i hm.lt
      rw [I'.plan] at hz
      rcases List.mem_append.1 hz with hz | hz
      · exact pend ⟨z, hz, e⟩
      · rcases hl' with rfl | ⟨j, r, rfl⟩
        · cases hz
        · rcases List.mem_cons.1 hz with rfl | hz
          · cases e
            refine I'.step_act he hhd pk hms hm hx hrun' (fun φ1 a1 w1 F1 h1 I1 hr1 => ih _ a1 w1 φ1 F1 h1 _ _ _ n1 n2 I1 hr1) fun φ1 v h1 v' w1 ex q1 q2 q3 => ?_
            subst ex
            exact ⟨φ1, v', rfl, q1, q2, q3, I'.dfr⟩
          · exfalso
            obtain ⟨r1, r2, rfl⟩ := List.append_of_mem hz
            have hord := (pk.order (A' ++ .act j :: r1) z r2 (by rw [I'.plan]; simp) (.act j) (by simp)).1 rfl
            rw [hms, e] at hord
            have hon := anc_spec hord I'.down hm.edges
            have hjlt : j < c.ops.size := pk.lt (.act j) (by rw [I'.plan]; simp)
            obtain ⟨z', hz', e'⟩ := I'.sub j hon
            exact fresh_ix (y := .act j) pk I'.plan hz' e'
end
end
end Go.Ev
/-
  The run of a program's functions, sound: all of it together. No program in sight.
-/
namespace Go.Ev
open Go Go.SL Go.RowKit
noncomputable section
section
variable {P : Program} {W0 : World} {env : Env}
theorem drawnC_ok (he : EnvOK P env) (hm : P.follows .mixedOrders = true) : DrOK P W0 (drawnC P env) := by
  intro big n id ops hd hhd φ F h a w hF hs
  unfold drawnC drawnP
  generalize hms : masks ops.toList [] = ms
  generalize planOf P ops ms = plan
  cases hp : planB P ops ms plan with
  | false => exact .inl ⟨617, rfl⟩
  | true =>
    show CodeOK P W0 big n (.region id ops true) φ h a w (toC ((Ctx.runC ⟨P, env, big, n, ops, ms, plan⟩ plan []).run hd F h))
    by_cases hx : ∃ k, (Ctx.runC ⟨P, env, big, n, ops, ms, plan⟩ plan []).run hd F h = .no k
    · obtain ⟨k, hk⟩ := hx
      rw [hk]
      exact .inl ⟨k, rfl⟩
    · have off : ∀ i, ¬ On (Array.replicate ops.size false) i := fun i hon => by
        unfold On at hon
        simp [Array.getElem?_replicate] at hon
        split at hon <;> simp at hon
      refine .inr (wp_region_any hm (drawn_main (c := ⟨P, env, big, n, ops, ms, plan⟩) (W0 := W0) (hd := hd) (φ0 := φ) (h0 := h) (D := a.defers) he hhd (planB_ok hp) hms.symm (fun k hk => hx ⟨k, hk⟩) ops.size _ a w.drew φ F h [] plan (List.range ops.size)
        (fun i hi _ => List.mem_range.2 hi) (by simp) ⟨rfl, by simp, fun i hon => absurd hon (off i), fun i hon => absurd hon (off i), fun z hz => (by cases hz), hs.drew, hF.toK _, rfl, St.refl _ _, fun i hm => (by cases hm), ⟨fun _ => .e, fun i hm => (by cases hm)⟩, fun z hz => (by cases hz)⟩ rfl))
/-- functions that are not run by their text: given a handler, arguments and blocks -/
abbrev Nats := Nat → Option (Hd → List V → Hp → Ox)
def NatsOK (P : Program) (W0 : World) (nat : Nats) : Prop := ∀ f g, nat f = some g → ∀ hd, HdOK P W0 hd → ∀ args h φ w argsR, Sm W0 φ h w → LR φ args argsR → CallOK P W0 φ h w f argsR.toArray (g hd args h)
def pickN (P : Program) (env : Env) (nat : Nats) (f : Nat) : FnC := match nat f with
  | some g => ⟨fun hd args h => g hd args h⟩
  | none => fnC P env (drawnC P env) f
/-- functions run n calls deep -/
def evalF (P : Program) (env : Env) (nat : Nats) (n : Nat) : Hd := Nat.rec (motive := fun _ => Hd) (fun _ _ _ => .no 550) (fun _ ih f args h => (pickN P env nat f).run ih args h) n
theorem evalF_ok (he : EnvOK P env) (hm : P.follows .mixedOrders = true) {nat : Nats} (hn : NatsOK P W0 nat) : ∀ n, HdOK P W0 (evalF P env nat n)
  | 0 => fun _ _ _ _ _ _ _ _ => trivial
  | n + 1 => fun f args h φ w argsR hs hl => by
    have ih := evalF_ok he hm hn n
    show CallOK P W0 φ h w f argsR.toArray ((pickN P env nat f).run (evalF P env nat n) args h)
    unfold pickN
    split
    · rename_i g hg
      exact hn f g hg _ ih args h φ w argsR hs hl
    · exact fnC_ok he (drawnC_ok he hm) f _ ih args h φ w argsR hs hl
end
end
end Go.Ev
/-
  Functions without a body: bits of a float, order of two texts. No program in sight.
-/
namespace Go.Ev
open Go Go.SL Go.RowKit
noncomputable section
section
variable {P : Program}
/-- a function without a body, and what stands for it -/
structure Bodyless (P : Program) (f : FuncId) (e : Array Value → Sem Value) : Prop where
  ex : ∃ fn, P.funcs[f]? = some fn ∧ (fn.name == "runtime.NumGoroutine") = false ∧ fn.body.isNone = true ∧ (Extern.findNext fn).isNone = true ∧ Extern.find fn = some e
theorem Bodyless.run {f : FuncId} {e : Array Value → Sem Value} (h : Bodyless P f e) {args : Array Value} {v : Value} (he : ∀ w, (e args).run P w = .ok v w) (w : World) : (callFunc f args).run P w = .ok (.value v) w := by
  obtain ⟨fn, h1, h2, h3, h4, h5⟩ := h.ex
  have h4' : Extern.findNext fn = none := by simpa using h4
  have hm : (mark (.extern f)).run P w = .ok () w := rfl
  simp only [callFunc, Sem.run_bind, run_program, Result.andThen_ok, h1, h2, h3]
  simp [hm, h4', h5, he]
def b64 (l : List V) : Option V := match l with
  | [.f n] => some (.i .u64 (.ofNat n))
  | _ => none
def f64 (l : List V) : Option V := match l with
  | [.i .u64 (.ofNat n)] => some (.f n)
  | _ => none
theorem LR.one {φ : Phi} {x : V} {vs : List Value} (h : LR φ [x] vs) : ∃ y, vs = [y] ∧ VR φ x y := by
  unfold LR at h
  obtain ⟨y, ys, rfl, h1, h2⟩ := h
  unfold LR at h2
  subst h2
  exact ⟨y, rfl, h1⟩
theorem b64_ok {f : FuncId} (hb : Bodyless P f Extern.MathFloatBits.float64bits) (φ : Phi) (args : List V) (argsR : List Value) (v : V) (hl : LR φ args argsR) (hv : b64 args = some v) : ∃ v', VR φ v v' ∧ ∀ w, (callFunc f argsR.toArray).run P w = .ok (.value v') w := by
  unfold b64 at hv
  split at hv
  · rename_i n
    cases hv
    obtain ⟨y, rfl, h1⟩ := hl.one
    have := h1.f
    subst this
    exact ⟨_, VR.i' _ _ _, fun w => hb.run (fun w => rfl) w⟩
  · cases hv
theorem f64_ok {f : FuncId} (hb : Bodyless P f Extern.MathFloatBits.float64frombits) (φ : Phi) (args : List V) (argsR : List Value) (v : V) (hl : LR φ args argsR) (hv : f64 args = some v) : ∃ v', VR φ v v' ∧ ∀ w, (callFunc f argsR.toArray).run P w = .ok (.value v') w := by
  unfold f64 at hv
  split at hv
  · rename_i n
    cases hv
    obtain ⟨y, rfl, h1⟩ := hl.one
    have := h1.i
    subst this
    exact ⟨_, VR.f' _ _, fun w => hb.run (fun w => rfl) w⟩
  · cases hv
def cmpS (l : List V) : Option V := match l with
  | [.s n x, .s m y] => some (ite' (strLt n x m y) (.i .i64 (.negSucc 0)) (ite' (strLt m y n x) (.i .i64 (.ofNat 1)) (.i .i64 (.ofNat 0))))
  | _ => none
theorem compare_less : ∀ (a b : List UInt8), Lib.compareBytes a b = if Op.bytesLess a b = true then -1 else if Op.bytesLess b a = true then 1 else 0
  | [], [] => rfl
  | [], _ :: _ => rfl
  | _ :: _, [] => rfl
  | a :: as, b :: bs => by
    have ih := compare_less as bs
    simp only [Lib.compareBytes, Op.bytesLess]
    by_cases h1 : a < b
    · simp [h1]
    · by_cases h2 : b < a
      · have h3 : ¬ a = b := fun e => by subst e; exact h1 h2
        have h4 : ¬ b = a := fun e => h3 e.symm
        simp [h1, h2, h3]
      · have h3 : a = b := by
          have h5 : ¬ a.toNat < b.toNat := fun h => h1 h
          have h6 : ¬ b.toNat < a.toNat := fun h => h2 h
          exact UInt8.toNat_inj.1 (by omega)
        subst h3
        simp [h1, ih]
theorem LR.two {φ : Phi} {x y : V} {vs : List Value} (h : LR φ [x, y] vs) : ∃ u v, vs = [u, v] ∧ VR φ x u ∧ VR φ y v := by
  unfold LR at h
  obtain ⟨u, us, rfl, h1, h2⟩ := h
  obtain ⟨v, rfl, h3⟩ := LR.one h2
  exact ⟨u, v, rfl, h1, h3⟩
theorem cmpS_ok {f : FuncId} (hb : Bodyless P f Extern.BytealgCompare.compare) (φ : Phi) (args : List V) (argsR : List Value) (v : V) (hl : LR φ args argsR) (hv : cmpS args = some v) : ∃ v', VR φ v v' ∧ ∀ w, (callFunc f argsR.toArray).run P w = .ok (.value v') w := by
  unfold cmpS at hv
  split at hv
  · rename_i n x m y
    cases hv
    obtain ⟨a, b, rfl, h1, h2⟩ := hl.two
    obtain ⟨rfl, q1⟩ := h1.s
    obtain ⟨rfl, q2⟩ := h2.s
    refine ⟨.int .i64 (Lib.compareBytes (strOf n x).data.toList (strOf m y).data.toList), ?_, fun w => hb.run (fun w => Lib.run_compareString _ _ w) w⟩
    have e1 := less_eq n x m y q1 q2
    have e2 := less_eq m y n x q2 q1
    have e3 : ∀ k z, (strOf k z).data.toList = (strOf k z).toList := fun k z => by
      rw [ByteArray.toList_eq]
    rw [e3, e3, compare_less, e1, e2]
    cases strLt n x m y with
    | true => exact VR.i' _ _ _
    | false => cases strLt m y n x <;> exact VR.i' _ _ _
  · cases hv
end
end
end Go.Ev
/-
  From what is said of blocks in lists to what is said of them by names. No program in sight.
-/
namespace Go.Ev
open Go Go.SL Go.RowKit
noncomputable section
section
variable {P : Program} {W0 w w1 : World} {φ : Phi} {h : Hp}
/-- another world with the same blocks -/
theorem Sm.moved (hs : Sm W0 φ h w) (hb : Below W0.heap.size W0 w1) (hsame : ∀ a o B, PT.get a h.mem = some o → φ a = some B → w1.heap[B.b]? = w.heap[B.b]?) : Sm W0 φ h w1 :=
  ⟨hb, fun a o B h1 h2 => ⟨(hs.own a o B h1 h2).1, (hs.own a o B h1 h2).2.mono (Ext.refl φ) (hsame a o B h1 h2)⟩, hs.apart, hs.fresh⟩
/-- a name is given up -/
theorem Sm.drop (hs : Sm W0 φ h w) (i : Id) : Sm W0 φ ⟨h.next, PT.set i none h.mem⟩ w := by
  have old : ∀ a o, PT.get a (PT.set i none h.mem) = some o → a ≠ i ∧ PT.get a h.mem = some o := fun a o hg => by
    rw [PT.get_set] at hg
    split at hg
    · cases hg
    · rename_i e; exact ⟨e, hg⟩
  refine ⟨hs.below, fun a o B h1 h2 => hs.own a o B (old a o h1).2 h2, fun a a' o o' B B' h1 h2 => hs.apart a a' o o' B B' (old a o h1).2 (old a' o' h2).2, fun a ha => ⟨(hs.fresh a ha).1, ?_⟩⟩
  show PT.get a (PT.set i none h.mem) = none
  rw [PT.get_set]
  split
  · rfl
  · exact (hs.fresh a ha).2
theorem drop_get {i a : Id} (hne : a ≠ i) : PT.get a (PT.set i none h.mem) = PT.get a h.mem := by
  rw [PT.get_set, if_neg hne]
/-- all blocks, listed -/
theorem Sm.listed (hs : Sm W0 φ h w) : Mem W0 w [others W0 w []] := by
  have := full (W0 := W0) (w := w) (L := []) ⟨hs.below, by simp, by simp⟩
  simpa using this
/-- a world that holds all the blocks of another one's list -/
theorem same_listed {L : List Seg} (hb : Below W0.heap.size W0 w) (hm : Mem W0 w1 L) (hsub : ∀ p ∈ others W0 w [], p ∈ L.flatten) {i : Nat} (hi : i < w.heap.size) : w1.heap[i]? = w.heap[i]? :=
  same_of hb hm hsub hi (by simp)
theorem Sm.of_listed {L : List Seg} (hs : Sm W0 φ h w) (hm : Mem W0 w1 L) (hsub : ∀ p ∈ others W0 w [], p ∈ L.flatten) : Sm W0 φ h w1 :=
  hs.moved hm.below fun a o B h1 h2 => same_listed hs.below hm hsub (hs.own a o B h1 h2).2.lt
end
end
end Go.Ev
/-
  Blocks told anew, two at a time; blocks that a call made are named. No program in sight.
-/
namespace Go.Ev
open Go Go.SL Go.RowKit
noncomputable section
section
variable {P : Program} {W0 w w' : World} {φ : Phi} {h : Hp}
/-- the named blocks hold other things now -/
theorem Sm.recast (hs : Sm W0 φ h w) (hb : Below W0.heap.size W0 w') (mem' : PT HO) (h1 : ∀ a, φ a = none → PT.get a mem' = PT.get a h.mem)
    (h2 : ∀ a o' B, φ a = some B → PT.get a mem' = some o' → (∃ o, PT.get a h.mem = some o) ∧ ORel φ w' B o') : Sm W0 φ ⟨h.next, mem'⟩ w' ∧ St φ φ h ⟨h.next, mem'⟩ := by
  refine ⟨⟨hb, fun a o B g1 g2 => ?_, fun a a' o o' B B' g1 g2 g3 g4 hne => ?_, fun a ha => ?_⟩, ⟨Ext.refl _, Nat.le_refl _, fun a g1 _ => ⟨g1, h1 a g1⟩⟩⟩
  · obtain ⟨⟨o0, g3⟩, g4⟩ := h2 a o B g2 g1
    exact ⟨(hs.own a o0 B g3 g2).1, g4⟩
  · obtain ⟨⟨o1, q1⟩, _⟩ := h2 a o B g3 g1
    obtain ⟨⟨o2, q2⟩, _⟩ := h2 a' o' B' g4 g2
    exact hs.apart a a' o1 o2 B B' q1 q2 g3 g4 hne
  · obtain ⟨g1, g2⟩ := hs.fresh a ha
    exact ⟨g1, (h1 a g1).trans g2⟩
theorem Sm.mem2 (hs : Sm W0 φ h w) {a1 a2 : Id} {o1 o2 : HO} {B1 B2 : Bk} (hne : a1 ≠ a2) (g1 : PT.get a1 h.mem = some o1) (g2 : PT.get a2 h.mem = some o2) (ha1 : φ a1 = some B1) (ha2 : φ a2 = some B2) {s1 s2 : SObj} (h1 : Holds w B1.b s1) (h2 : Holds w B2.b s2) :
    Mem W0 w ([(B1.b, s1), (B2.b, s2)] :: [others W0 w [B1.b, B2.b]]) := by
  have hap := hs.apart a1 a2 o1 o2 B1 B2 g1 g2 ha1 ha2 hne
  have : Mem W0 w [[(B1.b, s1), (B2.b, s2)]] := ⟨hs.below, by simpa using hap, fun p hp => by
    simp only [List.flatten_cons, List.flatten_nil, List.append_nil, List.mem_cons, List.not_mem_nil, or_false] at hp
    rcases hp with rfl | rfl
    · exact ⟨(hs.own a1 o1 B1 g1 ha1).1, h1⟩
    · exact ⟨(hs.own a2 o2 B2 g2 ha2).1, h2⟩⟩
  simpa using full this
/-- two named blocks told anew, the others as they were -/
theorem Sm.put2 (hs : Sm W0 φ h w) {a1 a2 : Id} {o1 o2 o1' o2' : HO} {B1 B2 : Bk} (hne : a1 ≠ a2) (g1 : PT.get a1 h.mem = some o1) (g2 : PT.get a2 h.mem = some o2) (ha1 : φ a1 = some B1) (ha2 : φ a2 = some B2)
    {L : List Seg} (hm : Mem W0 w' L) (hsub : ∀ p ∈ others W0 w [B1.b, B2.b], p ∈ L.flatten) (h1 : ORel φ w' B1 o1') (h2 : ORel φ w' B2 o2') :
    Sm W0 φ ⟨h.next, PT.set a2 (some o2') (PT.set a1 (some o1') h.mem)⟩ w' ∧ St φ φ h ⟨h.next, PT.set a2 (some o2') (PT.set a1 (some o1') h.mem)⟩ := by
  refine hs.recast hm.below _ (fun a ha => ?_) fun a o' B ha hg => ?_
  · rw [PT.get_set, PT.get_set, if_neg (fun e => by subst e; rw [ha2] at ha; cases ha), if_neg (fun e => by subst e; rw [ha1] at ha; cases ha)]
  · rw [PT.get_set, PT.get_set] at hg
    split at hg
    · rename_i e
      subst e; cases hg
      rw [ha2] at ha; cases ha
      exact ⟨⟨_, g2⟩, h2⟩
    · rename_i e2
      split at hg
      · rename_i e
        subst e; cases hg
        rw [ha1] at ha; cases ha
        exact ⟨⟨_, g1⟩, h1⟩
      · rename_i e1
        refine ⟨⟨_, hg⟩, ?_⟩
        have k1 := hs.apart a a1 o' o1 B B1 hg g1 ha ha1 e1
        have k2 := hs.apart a a2 o' o2 B B2 hg g2 ha ha2 e2
        obtain ⟨_, k3⟩ := hs.own a o' B hg ha
        exact k3.mono (Ext.refl φ) (same_of hs.below hm (S := [B1.b, B2.b]) hsub k3.lt (by simp [k1, k2]))
/-- one named block told anew -/
theorem Sm.put1 (hs : Sm W0 φ h w) {a1 : Id} {o1 o1' : HO} {B1 : Bk} (g1 : PT.get a1 h.mem = some o1) (ha1 : φ a1 = some B1)
    {L : List Seg} (hm : Mem W0 w' L) (hsub : ∀ p ∈ others W0 w [B1.b], p ∈ L.flatten) (h1 : ORel φ w' B1 o1') :
    Sm W0 φ ⟨h.next, PT.set a1 (some o1') h.mem⟩ w' ∧ St φ φ h ⟨h.next, PT.set a1 (some o1') h.mem⟩ :=
  hs.change g1 ha1 hm.below (fun i hi hne => same_of hs.below hm (S := [B1.b]) hsub hi (by simpa using hne)) h1
/-- a new block, beside blocks that are as they were -/
theorem Sm.name1 (hs : Sm W0 φ h w) {b k s : Nat} {o : HO} {so : SObj} {L : List Seg} (hm : Mem W0 w' L) (hin : (b, so) ∈ L.flatten) (hnew : ∀ a o B, PT.get a h.mem = some o → φ a = some B → B.b ≠ b ∧ w'.heap[B.b]? = w.heap[B.b]?)
    (ho : ORel (named φ h.next ⟨b, 0, k, s⟩) w' ⟨b, 0, k, s⟩ o) :
    Sm W0 (named φ h.next ⟨b, 0, k, s⟩) ⟨h.next.succ, PT.set h.next (some o) h.mem⟩ w' ∧ St φ (named φ h.next ⟨b, 0, k, s⟩) h ⟨h.next.succ, PT.set h.next (some o) h.mem⟩ :=
  hs.name (B := ⟨b, 0, k, s⟩) hm.below (hm.holds _ hin).1 (fun _ => False) (fun _ hf => hf.elim) h.mem (fun _ => ⟨fun hf => hf.elim, fun _ => rfl⟩) (fun a o1 B1 _ g1 g2 => hnew a o1 B1 g1 g2) ho
/-- blocks of one list are apart from the others of it -/
theorem apart_of {b : Nat} {so : SObj} {L : List Seg} (hb : Below W0.heap.size W0 w) (hm : Mem W0 w' ([(b, so)] :: L)) {S : List Nat} (hsub : ∀ p ∈ others W0 w S, p ∈ L.flatten) {i : Nat} (hi : i < w.heap.size) (h0 : W0.heap.size ≤ i) (hS : i ∉ S) : i ≠ b := by
  rintro rfl
  have hn := hm.nodup
  simp only [List.flatten_cons, List.singleton_append, List.map_cons, List.nodup_cons] at hn
  exact hn.1 (List.mem_map.2 ⟨_, hsub (i, .obj w.heap[i]) (mem_others.2 ⟨w.heap[i], by simp [hi], h0, hS, rfl⟩), rfl⟩)
end
end
end Go.Ev
/-
  A run that comes to true; functions that are known to come to true. No program in sight.
-/
namespace Go.Ev
open Go Go.SL Go.RowKit
noncomputable section
section
variable {P : Program} {W0 w w' : World} {φ : Phi} {h : Hp} {env : Env}
def okB (x : Ox) : Bool := Ox.rec (motive := fun _ => Bool) (fun v _ => elB v false fun b => b) (fun _ => false) (fun _ _ => false) (fun _ => false) x
theorem okB_val {x : Ox} (hx : okB x = true) : ∃ h', x = .val (.b true) h' := by
  cases x with
  | val v h' =>
    cases v <;> try exact (Bool.false_ne_true hx).elim
    rename_i b
    cases b with
    | true => exact ⟨_, rfl⟩
    | false => exact (Bool.false_ne_true hx).elim
  | skip _ => exact (Bool.false_ne_true hx).elim
  | pan _ _ => exact (Bool.false_ne_true hx).elim
  | no _ => exact (Bool.false_ne_true hx).elim
def hp0 : Hp := ⟨.e, .lf⟩
theorem CallOK.true_ {f : Nat} {args : Array Value} {x : Ox} (hc : CallOK P w φ h w f args x) (hx : okB x = true) : Calls P f args w fun e w' => e = .returned (.bool true) ∧ Below w.heap.size w w' := by
  obtain ⟨h', rfl⟩ := okB_val hx
  refine Calls.mono hc ?_
  rintro e w' ⟨φ', v', rfl, _, h2, h3⟩
  exact ⟨by rw [h3.b], h2.below⟩
theorem run_true (he : EnvOK P env) (hm : P.follows .mixedOrders = true) {nat : Nats} (hn : ∀ W0, NatsOK P W0 nat) (n f : Nat) (args : List V) (argsR : List Value) (hl : LR (fun _ => none) args argsR) (hx : okB (evalF P env nat n f args hp0) = true) (w : World) :
    Calls P f argsR.toArray w fun e w' => e = .returned (.bool true) ∧ Below w.heap.size w w' :=
  CallOK.true_ (evalF_ok he hm (hn w) n f args hp0 _ w argsR (Sm.start w) hl) hx
theorem Sm.later (hs : Sm W0 φ h w) (hb : Below w.heap.size w w') : Sm W0 φ h w' :=
  hs.moved (hs.below.trans (hb.mono hs.below.size)) fun a o B h1 h2 => hb.block _ (hs.own a o B h1 h2).2.lt
/-- a function of no arguments that comes to true -/
def begN (_ : Hd) (args : List V) (h : Hp) : Ox := match args with
  | [] => .val (.b true) h
  | _ => .no 760
abbrev NatOK (P : Program) (W0 : World) (f : Nat) (g : Hd → List V → Hp → Ox) : Prop := ∀ hd, HdOK P W0 hd → ∀ args h φ w argsR, Sm W0 φ h w → LR φ args argsR → CallOK P W0 φ h w f argsR.toArray (g hd args h)
theorem begN_ok {f : Nat} (hb : ∀ w, Calls P f #[] w fun e w' => e = .returned (.bool true) ∧ Below w.heap.size w w') (W0 : World) : NatOK P W0 f begN := by
  intro hd _ args h φ w argsR hs hl
  unfold begN
  split
  · unfold LR at hl
    subst hl
    refine (hb w).mono ?_
    rintro e w' ⟨rfl, hbel⟩
    exact ⟨φ, _, rfl, St.refl _ _, hs.later hbel, VR.b' _ _⟩
  · trivial
theorem NatsOK.none (P : Program) (W0 : World) : NatsOK P W0 (fun _ => none) := fun _ _ h => by cases h
theorem NatsOK.cons {nat : Nats} {f : Nat} {g : Hd → List V → Hp → Ox} (hg : NatOK P W0 f g) (hn : NatsOK P W0 nat) : NatsOK P W0 (fun x => ite' (Nat.beq x f) (some g) (nat x)) := by
  intro x g' hx
  cases hb : Nat.beq x f with
  | true =>
    have : x = f := Nat.eq_of_beq_eq_true hb
    subst this
    change ite' (Nat.beq x x) (some g) (nat x) = some g' at hx
    rw [hb] at hx
    cases hx
    exact hg
  | false =>
    change ite' (Nat.beq x f) (some g) (nat x) = some g' at hx
    rw [hb] at hx
    exact hn x g' hx
/-- a function by its text -/
def textF (P : Program) (env : Env) (f : Nat) (hd : Hd) (args : List V) (h : Hp) : Ox := (fnC P env (drawnC P env) f).run hd args h
theorem textF_ok (he : EnvOK P env) (hm : P.follows .mixedOrders = true) (W0 : World) (f : Nat) : NatOK P W0 f (textF P env f) := fun hd hhd args h φ w argsR hs hl => fnC_ok he (drawnC_ok he hm) f hd hhd args h φ w argsR hs hl
end
end
end Go.Ev
/-
  A function's run, cut behind its first parts. No program in sight.
-/
namespace Go.Ev
open Go Go.SL Go.RowKit
noncomputable section
section
variable {P : Program} {env : Env}
def finC (P : Program) (big : Bool) (fn : Func) (f : Nat) (x : Cx) : Ox := Cx.rec (motive := fun _ => Ox)
  (fun F h => valO ((retC P big fn.ntmps fn.results.toList).run F h)) (fun _ _ _ => .no 540)
  (fun F h => valO ((retC P big fn.ntmps fn.results.toList).run F h)) (fun v h => .pan v h) (fun k => .no (tagN f k)) x
theorem evalF_text {nat : Nats} {f : Nat} {fn : Func} {c : Code} (hnat : nat f = none) (hf : P.funcs[f]? = some fn) (hb : fn.body = some c) (hlim : Nat.ble fn.ntmps (lim (Nat.blt 64 fn.ntmps)) = true) {args : List V} (hargs : Nat.ble args.length fn.ntmps = true) (n : Nat) (h : Hp) :
    evalF P env nat (n + 1) f args h = finC P (Nat.blt 64 fn.ntmps) fn f ((codeC P env (drawnC P env) (Nat.blt 64 fn.ntmps) fn.ntmps c).run (evalF P env nat n) (fillA (Nat.blt 64 fn.ntmps) args 0) h) := by
  show (pickN P env nat f).run (evalF P env nat n) args h = _
  unfold pickN
  rw [hnat]
  show (fnC P env (drawnC P env) f).run (evalF P env nat n) args h = _
  unfold fnC
  rw [hf]
  simp only
  rw [hb]
  simp only
  rw [hlim]
  show ite' (Nat.ble args.length fn.ntmps) _ _ = _
  rw [hargs]
  rfl
/-- the first k parts -/
def takeS : Nat → Code → Code
  | 0, _ => .skip
  | k + 1, .seq x y => .seq x (takeS k y)
  | _ + 1, _ => .skip
def dropS : Nat → Code → Code
  | 0, c => c
  | k + 1, .seq _ y => dropS k y
  | _ + 1, c => c
def bindC (x : Cx) (k : R → Hp → Cx) : Cx := Cx.rec (motive := fun _ => Cx) (fun F h => k F h) (fun id F h => .ex id F h) (fun F h => .ret F h) (fun v h => .pan v h) (fun c => .no c) x
theorem bindC_assoc (x : Cx) (k j : R → Hp → Cx) : bindC (bindC x k) j = bindC x (fun F h => bindC (k F h) j) := by cases x <;> rfl
theorem run_split {dr : Bool → Nat → Array Oper → StepC} {big : Bool} {n : Nat} {hd : Hd} : ∀ (k : Nat) (c : Code) (F : R) (h : Hp), (codeC P env dr big n c).run hd F h = bindC ((codeC P env dr big n (takeS k c)).run hd F h) fun F h => (codeC P env dr big n (dropS k c)).run hd F h
  | 0, c, F, h => rfl
  | k + 1, .seq x y, F, h => by
    show bindC ((codeC P env dr big n x).run hd F h) (fun F h => (codeC P env dr big n y).run hd F h) = bindC (bindC ((codeC P env dr big n x).run hd F h) fun F h => (codeC P env dr big n (takeS k y)).run hd F h) _
    rw [bindC_assoc]
    congr 1
    funext F h
    exact run_split k y F h
  | _ + 1, .skip, F, h => rfl
  | _ + 1, .region .., F, h => rfl
  | _ + 1, .cond .., F, h => rfl
  | _ + 1, .block .., F, h => rfl
  | _ + 1, .loop .., F, h => rfl
  | _ + 1, .rangeFunc .., F, h => rfl
  | _ + 1, .exit .., F, h => rfl
  | _ + 1, .scope .., F, h => rfl
  | _ + 1, .label .., F, h => rfl
  | _ + 1, .goto .., F, h => rfl
  | _ + 1, .ret, F, h => rfl
  | _ + 1, .refuse .., F, h => rfl
def isGo (x : Cx) : Bool := Cx.rec (motive := fun _ => Bool) (fun _ _ => true) (fun _ _ _ => false) (fun _ _ => false) (fun _ _ => false) (fun _ => false) x
def goF (x : Cx) : R := Cx.rec (motive := fun _ => R) (fun F _ => F) (fun _ _ _ => blank false) (fun _ _ => blank false) (fun _ _ => blank false) (fun _ => blank false) x
def goH (x : Cx) : Hp := Cx.rec (motive := fun _ => Hp) (fun _ h => h) (fun _ _ _ => hp0) (fun _ _ => hp0) (fun _ _ => hp0) (fun _ => hp0) x
theorem isGo_go {x : Cx} (h : isGo x = true) : x = .go (goF x) (goH x) := by
  cases x with
  | go F h => rfl
  | ex _ _ _ => exact (Bool.false_ne_true h).elim
  | ret _ _ => exact (Bool.false_ne_true h).elim
  | pan _ _ => exact (Bool.false_ne_true h).elim
  | no _ => exact (Bool.false_ne_true h).elim
theorem run_parted {dr : Bool → Nat → Array Oper → StepC} {big : Bool} {n : Nat} {hd : Hd} (k j : Nat) (c : Code) (F : R) (h : Hp) {x : Cx} (hx : (codeC P env dr big n (takeS k c)).run hd F h = x) (hgo : isGo x = true) :
    (codeC P env dr big n c).run hd F h = bindC ((codeC P env dr big n (takeS j (dropS k c))).run hd (goF x) (goH x)) fun F h => (codeC P env dr big n (dropS j (dropS k c))).run hd F h := by
  rw [run_split k c F h, hx, isGo_go hgo]
  exact run_split j (dropS k c) (goF x) (goH x)
end
end
end Go.Ev
/-
  A function's run, cut at a call. No program in sight.
-/
namespace Go.Ev
open Go Go.SL Go.RowKit
noncomputable section
section
variable {P : Program} {env : Env}
theorem evalF_cut {nat : Nats} {f : Nat} {fn : Func} {c : Code} (hnat : nat f = none) (hf : P.funcs[f]? = some fn) (hb : fn.body = some c) (hlim : Nat.ble fn.ntmps (lim (Nat.blt 64 fn.ntmps)) = true) {args : List V} (hargs : Nat.ble args.length fn.ntmps = true) (n k : Nat) (h : Hp)
    {x : Cx} (hx : (codeC P env (drawnC P env) (Nat.blt 64 fn.ntmps) fn.ntmps (takeS k c)).run (evalF P env nat n) (fillA (Nat.blt 64 fn.ntmps) args 0) h = x) (hgo : isGo x = true)
    {y : Cx} (hy : (codeC P env (drawnC P env) (Nat.blt 64 fn.ntmps) fn.ntmps (takeS 1 (dropS k c))).run (evalF P env nat n) (goF x) (goH x) = y)
    {z : Ox} (hz : finC P (Nat.blt 64 fn.ntmps) fn f (bindC y fun F h => (codeC P env (drawnC P env) (Nat.blt 64 fn.ntmps) fn.ntmps (dropS 1 (dropS k c))).run (evalF P env nat n) F h) = z) :
    evalF P env nat (n + 1) f args h = z := by
  rw [evalF_text hnat hf hb hlim hargs, run_parted k 1 c _ h hx hgo, hy, hz]
end
end
end Go.Ev
