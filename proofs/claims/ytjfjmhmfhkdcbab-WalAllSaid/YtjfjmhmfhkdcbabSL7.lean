/-
  Rules for deferred calls, panics and recover: what a function that defers leaves with; what a deferred function does to the panic under it. No program in sight.
-/
import Derived.Test.YtjfjmhmfhkdcbabSL6
import Derived.Test.YtjfjmhmfhkdcbabSLY
import Derived.Recover
import Derived.Orders
namespace Go.SL
open Go Go.RowKit

/-! ### Results that lie in cells -/
def rv (tmps : Array Value) : ResultVar → Sem Value
  | .tmp t => pure (tmps.getD t undef)
  | .cell a t => do loadVar t (← asAddr (tmps.getD a undef))
def RV (P : Program) (W0 : World) (n : Nat) (F : Nat → Value) (L : List Seg) (r : ResultVar) (v : Value) : Prop :=
  ∀ a w, Sl n a F → Mem W0 w L → (rv a.tmps r).run P w = .ok v w
section
variable {P : Program} {W0 : World} {n : Nat} {F : Nat → Value} {L : List Seg} {fn : Func}
theorem RV.tmp {t : Nat} {v : Value} (h : F t = v) : RV P W0 n F L (.tmp t) v := by
  intro a w hs _
  simp [rv, hs.at_, h]
theorem RV.cell {x t b i : Nat} {td : TypeDesc} {v : Value} {cs : List Value} {e : TypeId} {kk : Nat} {u : Nat → SObj → List Seg} (ha : At L b (.row cs e kk) u) (hx : F x = .pointer (some ⟨b, i, none⟩)) (hu : P.underlying t = some td) (hs : scalar td = true) (hc : cs[i]? = some v) : RV P W0 n F L (.cell x t) v := by
  intro a w h hm
  have hg : ∀ w, (isAgg t).run P w = .ok false w := run_isAgg_no hu hs
  have h1 := (hm.get ha).2.cell hc
  have h2 := h.at_ x
  rw [hx] at h2
  simp only [rv, h2]
  simp [asAddr, loadVar, hg, run_load, h1]
theorem RV.agg {x t b off sz by_ : Nat} {td : TypeDesc} {z : Value} {vs cs : List Value} {e : TypeId} {kk : Nat} {u : Nat → SObj → List Seg} (ha : At L b (.row cs e kk) u) (hx : F x = .pointer (some ⟨b, off, none⟩)) (hu : P.underlying t = some td) (hs : scalar td = false) (hi : Inf P t sz by_ z)
    (hl : vs.length = sz) (hv : ∀ j v, vs[j]? = some v → cs[off + j]? = some v) : RV P W0 n F L (.cell x t) (.agg vs.toArray) := by
  intro a w h hm
  have h2 := h.at_ x
  rw [hx] at h2
  have h3 := run_loadVar_agg hu hs hi hl (fun j v hj => agg_of_row hm ha hv j v hj)
  simp only [rv, h2]
  simp [asAddr, h3]
theorem Res.one {r : ResultVar} {v : Value} (h : fn.results = #[r]) (h1 : RV P W0 fn.ntmps F L r v) : Res P W0 fn F L v := by
  intro a w hs hm
  have e : results fn a.tmps = (do let vs ← fn.results.mapM (rv a.tmps); pure (if h : vs.size = 1 then vs[0] else .tuple vs)) := rfl
  rw [e, h]
  simp [h1 a w hs hm]
theorem Res.two {r s : ResultVar} {v u : Value} (h : fn.results = #[r, s]) (h1 : RV P W0 fn.ntmps F L r v) (h2 : RV P W0 fn.ntmps F L s u) : Res P W0 fn F L (.tuple #[v, u]) := by
  intro a w hs hm
  have e : results fn a.tmps = (do let vs ← fn.results.mapM (rv a.tmps); pure (if h : vs.size = 1 then vs[0] else .tuple vs)) := rfl
  rw [e, h]
  simp [h1 a w hs hm, h2 a w hs hm]
theorem Res.three {r s t : ResultVar} {v u x : Value} (h : fn.results = #[r, s, t]) (h1 : RV P W0 fn.ntmps F L r v) (h2 : RV P W0 fn.ntmps F L s u) (h3 : RV P W0 fn.ntmps F L t x) : Res P W0 fn F L (.tuple #[v, u, x]) := by
  intro a w hs hm
  have e : results fn a.tmps = (do let vs ← fn.results.mapM (rv a.tmps); pure (if h : vs.size = 1 then vs[0] else .tuple vs)) := rfl
  rw [e, h]
  simp [h1 a w hs hm, h2 a w hs hm, h3 a w hs hm]
end

/-! ### Leaving by way of the deferred calls -/
def Lv (P : Program) (W0 : World) (fn : Func) (F : Nat → Value) (R : Ending → List Seg → Prop) (D : List Deferred) (u : FrameMode) (L : List Seg) : Prop :=
  ∀ a w, Sl fn.ntmps a F → Mem W0 w L → Leaves P fn a.tmps (fun e w' => ∃ L', Mem W0 w' L' ∧ R e L') D u w
def DfS (P : Program) (W0 : World) (f : FuncId) (args : Array Value) (u : FrameMode) (L : List Seg) (R : Ending → FrameMode → List Seg → Prop) : Prop :=
  ∀ w, Mem W0 w L → CallsD P f args u w fun e u' w' => ∃ L', Mem W0 w' L' ∧ R e u' L'
def retPostD (P : Program) (W0 : World) (fn : Func) (R : Ending → List Seg → Prop) : SPost
  | .normal, F, D, L | .ret, F, D, L => Lv P W0 fn F R D .returning L
  | .panic chain, F, D, L => Lv P W0 fn F R D (.panicking chain) L
  | _, _, _, _ => False
section
variable {P : Program} {W0 : World} {fn : Func} {F : Nat → Value} {R : Ending → List Seg → Prop} {L : List Seg}
theorem Lv.ret {v : Value} (hv : Res P W0 fn F L v) (hR : R (.returned v) L) : Lv P W0 fn F R [] .returning L :=
  fun a w hs hm => ⟨v, hv a w hs hm, L, hm, hR⟩
theorem Lv.retL {v : Value} {L' : List Seg} (hv : Res P W0 fn F L v) (hs : ∀ w, Mem W0 w L → Mem W0 w L') (hR : R (.returned v) L') : Lv P W0 fn F R [] .returning L :=
  fun a w h hm => ⟨v, hv a w h hm, L', hs w hm, hR⟩
theorem Lv.panic {chain : List PanicEntry} (hR : R (.panicked chain) L) : Lv P W0 fn F R [] (.panicking chain) L :=
  fun _ _ _ hm => ⟨L, hm, hR⟩
theorem Lv.cons {f : FuncId} {cap dargs : Array Value} {ds : List Deferred} {u : FrameMode} {args : List Value} {Rd : Ending → FrameMode → List Seg → Prop} (hu : u ≠ .run) (he : Enters P f)
    (hf : DfS P W0 f args.toArray u L Rd) (hargs : dargs.toList ++ cap.toList = args)
    (k : ∀ e u' L', Rd e u' L' → match e with
      | .returned _ => Lv P W0 fn F R ds (settle u') L'
      | .panicked chain => Lv P W0 fn F R ds (raised u' chain) L'
      | .outgrown => False) : Lv P W0 fn F R ({ target := .fn (.func f) cap, args := dargs } :: ds) u L := by
  intro a w hs hm
  have hargs' : dargs ++ cap = args.toArray := by rw [← hargs]; apply Array.ext'; simp
  refine leaves_cons hu (f := f) (args := args.toArray) (by simp only [invoke, hargs']; exact he args.toArray w) ((hf w hm).mono ?_)
  rintro e u' w' ⟨L', h1, h2⟩
  have h3 := k e u' L' h2
  cases e with
  | returned v => exact h3 a w' hs h1
  | panicked ch => exact h3 a w' hs h1
  | outgrown => exact h3.elim
theorem Lv.less {L' : List Seg} {D : List Deferred} {u : FrameMode} (hs : ∀ w, Mem W0 w L → Mem W0 w L') (k : Lv P W0 fn F R D u L') : Lv P W0 fn F R D u L := fun a w h hm => k a w h (hs w hm)
theorem args_sl {fn : Func} {args : List Value} (hn : Nat.ble args.length fn.ntmps = true) : Sl fn.ntmps { tmps := args.toArray ++ Array.replicate (fn.ntmps - args.toArray.size) undef, defers := [] } (argF args) := by
  refine ⟨?_, fun t => ?_⟩
  · have := Nat.le_of_ble_eq_true hn
    simp only [Array.size_append, List.size_toArray, Array.size_replicate]
    omega
  · rw [← argF_at args (fn.ntmps - args.toArray.size) t]
    simp only [Array.getD_eq_getD_getElem?]
    congr 1
    rw [← Array.getElem?_toList]
    simp
theorem FnS.ofD {f : FuncId} {c : Code} {args : List Value} (hf : P.funcs[f]? = some fn) (hb : fn.body = some c) (hn : Nat.ble args.length fn.ntmps = true)
    (h : C P W0 fn.ntmps (retPostD P W0 fn R) c (argF args) [] L) : FnS P W0 f args.toArray L R := by
  intro w hm
  refine calls_of_wp_defers hf hb (Code.wp_mono ?_ (h _ w (args_sl hn) rfl hm))
  rintro e a' w' ⟨F', L', h1, h2, h3⟩
  cases e with
  | normal => exact h3 a' w' h1 h2
  | ret => exact h3 a' w' h1 h2
  | panic ch => exact h3 a' w' h1 h2
  | exit id => exact h3.elim
  | goto l => exact h3.elim
  | outgrown => exact h3.elim
/-- a deferred function that does not recover -/
theorem DfS.of {f : FuncId} {c : Code} {args : List Value} {u : FrameMode} (hf : P.funcs[f]? = some fn) (hb : fn.body = some c) (hn : Nat.ble args.length fn.ntmps = true)
    (h : C P W0 fn.ntmps (retPost P W0 fn R) c (argF args) [] L) : DfS P W0 f args.toArray u L (fun e u' L' => u' = u ∧ R e L') := by
  intro w hm
  refine (callsD_of_wp (R := fun e w' => ∃ L', Mem W0 w' L' ∧ R e L') hf hb (Code.wp_mono ?_ (h _ w (args_sl hn) rfl hm))).mono ?_
  · rintro e a' w' ⟨F', L', h1, h2, h3⟩
    cases e with
    | normal =>
      obtain ⟨hd, v, hv, hR⟩ := h3
      exact ⟨hd, v, hv _ _ h1 h2, L', h2, hR⟩
    | ret =>
      obtain ⟨hd, v, hv, hR⟩ := h3
      exact ⟨hd, v, hv _ _ h1 h2, L', h2, hR⟩
    | panic ch =>
      obtain ⟨hd, hR⟩ := h3
      exact ⟨hd, L', h2, hR⟩
    | exit id => exact h3.elim
    | goto l => exact h3.elim
    | outgrown => exact h3.elim
  · rintro e u' w' ⟨h1, L', h2, h3⟩
    exact ⟨L', h2, h1, h3⟩
end

/-- fewer blocks, in the same order -/
theorem Mem.fewer {W0 w : World} {L L' : List Seg} (h : Mem W0 w L) (hs : L'.flatten.Sublist L.flatten) : Mem W0 w L' :=
  ⟨h.below, (hs.map _).nodup h.nodup, fun p hp => h.holds p (hs.subset hp)⟩
theorem Mem.skip1 {W0 w : World} {s t : Seg} {L : List Seg} (h : Mem W0 w (s :: t :: L)) : Mem W0 w (s :: L) :=
  h.fewer (by simp only [List.flatten_cons]; exact (List.sublist_append_right t L.flatten).append_left s)
theorem FnS.drop {P : Program} {W0 : World} {f : FuncId} {args : Array Value} {L : List Seg} {R R' : Ending → List Seg → Prop} (h : FnS P W0 f args L R)
    (hr : ∀ e L', R e L' → ∃ L2, (∀ w, Mem W0 w L' → Mem W0 w L2) ∧ R' e L2) : FnS P W0 f args L R' :=
  fun w hm => (h w hm).mono fun e _ ⟨L', h1, h2⟩ => let ⟨L2, h3, h4⟩ := hr e L' h2; ⟨L2, h3 _ h1, h4⟩

/-! ### A deferred function that recovers -/
abbrev DPost := Exit → (Nat → Value) → List Deferred → List Seg → FrameMode → Prop
def liftS (W0 : World) (n : Nat) (SQ : DPost) (c0 : Frame) (cs : List Frame) : Exit → Act → List Frame → World → Prop :=
  fun e a cs' w => ∃ F L u', Sl n a F ∧ Mem W0 w L ∧ cs' = { c0 with mode := u' } :: cs ∧ SQ e F a.defers L u'
def CS (P : Program) (W0 : World) (n : Nat) (SQ : DPost) (c : Code) (u : FrameMode) (F : Nat → Value) (D : List Deferred) (L : List Seg) : Prop :=
  ∀ (c0 : Frame) (cs : List Frame) a w, Sl n a F → a.defers = D → Mem W0 w L → c.wpS P (liftS W0 n SQ c0 cs) a ({ c0 with mode := u } :: cs) w
/-- the operations of a region from the k-th on -/
def GS (P : Program) (W0 : World) (n : Nat) (SQ : DPost) (ops : Array Oper) (k : Nat) (rest : List Oper) (u : FrameMode) (F : Nat → Value) (D : List Deferred) (L : List Seg) : Prop :=
  (∀ j, rest[j]? = ops[k + j]?) → ∀ (c0 : Frame) (cs : List Frame) a w, Sl n a F → a.defers = D → Mem W0 w L → wpOpsS P ops (liftS W0 n SQ c0 cs) (List.range' k rest.length) a ({ c0 with mode := u } :: cs) w
def DPost.seq (K : (Nat → Value) → List Deferred → List Seg → FrameMode → Prop) (SQ : DPost) : DPost
  | .normal, F, D, L, u => K F D L u
  | e, F, D, L, u => SQ e F D L u
def dretPost (P : Program) (W0 : World) (fn : Func) (R : Ending → FrameMode → List Seg → Prop) : DPost
  | .normal, F, D, L, u | .ret, F, D, L, u => D = [] ∧ ∃ v, Res P W0 fn F L v ∧ R (.returned v) u L
  | .panic chain, _, D, L, u => D = [] ∧ R (.panicked chain) u L
  | _, _, _, _, _ => False
section
variable {P : Program} {W0 : World} {n : Nat} {SQ : DPost} {u : FrameMode} {F : Nat → Value} {D : List Deferred} {L : List Seg}
theorem CS.ofC {c : Code} (h : C P W0 n (fun e F D L => SQ e F D L u) c F D L) : CS P W0 n SQ c u F D L := by
  intro c0 cs a w hs hd hm
  refine wpS_of_wp (Code.wp_mono ?_ (h a w hs hd hm))
  rintro e a' w' ⟨F', L', h1, h2, h3⟩
  exact ⟨F', L', u, h1, h2, rfl, h3⟩
theorem CS.seq {x y : Code} (h : CS P W0 n (DPost.seq (fun F D L u => CS P W0 n SQ y u F D L) SQ) x u F D L) : CS P W0 n SQ (.seq x y) u F D L := by
  intro c0 cs a w hs hd hm
  refine wpS_seq ?_
  intro b k hb hr
  obtain ⟨e, a', cs', w', ⟨F', L', u', h1, h2, rfl, h3⟩, harr⟩ := h c0 cs a w hs hd hm b k hb hr
  refine ⟨e, a', _, w', ?_, harr⟩
  cases e with
  | normal => exact h3 c0 cs a' w' h1 rfl h2
  | exit id => exact ⟨F', L', u', h1, h2, rfl, h3⟩
  | goto l => exact ⟨F', L', u', h1, h2, rfl, h3⟩
  | ret => exact ⟨F', L', u', h1, h2, rfl, h3⟩
  | panic ch => exact ⟨F', L', u', h1, h2, rfl, h3⟩
  | outgrown => exact ⟨F', L', u', h1, h2, rfl, h3⟩
theorem CS.condB {c : Operand} {x y : Code} (b : Bool) (hc : ev F c = .bool b) (ht : b = true → CS P W0 n SQ x u F D L) (hf : b = false → CS P W0 n SQ y u F D L) : CS P W0 n SQ (.cond c x y) u F D L := by
  intro c0 cs a w hs hd hm
  refine wpS_cond (t := b) (by rw [hs.eval]; exact hc) ?_
  cases b with
  | true => exact ht rfl c0 cs a w hs hd hm
  | false => exact hf rfl c0 cs a w hs hd hm
theorem CS.condT {c : Operand} {x y : Code} (hc : ev F c = .bool true) (ht : CS P W0 n SQ x u F D L) : CS P W0 n SQ (.cond c x y) u F D L := CS.condB true hc (fun _ => ht) (fun h => by cases h)
theorem CS.condF {c : Operand} {x y : Code} (hc : ev F c = .bool false) (hf : CS P W0 n SQ y u F D L) : CS P W0 n SQ (.cond c x y) u F D L := CS.condB false hc (fun h => by cases h) (fun _ => hf)
theorem CS.region {id : Nat} {l : List Oper} (h : GS P W0 n SQ l.toArray 0 l u F D L) : CS P W0 n SQ (.region id l.toArray false) u F D L := by
  intro c0 cs a w hs hd hm
  refine wpS_region ?_
  have := h (by simp) c0 cs a w hs hd hm
  rwa [List.range_eq_range', List.size_toArray]
theorem GS.ofG {ops : Array Oper} {k : Nat} {rest : List Oper} (hno : ∀ F D L, ¬ SQ .outgrown F D L u) (h : G P W0 n (fun e F D L => SQ e F D L u) ops rest F D L) : GS P W0 n SQ ops k rest u F D L := by
  intro hk c0 cs a w hs hd hm
  have h0 := h a w hs hd hm
  clear h hs hd hm
  have hlet : ¬ LetsOut (lift W0 n (fun e F D L => SQ e F D L u)) := by
    rintro ⟨a, w, F', L', _, _, h3⟩
    exact hno _ _ _ h3
  induction rest generalizing a w k with
  | nil =>
    obtain ⟨F', L', h1, h2, h3⟩ := h0
    exact ⟨F', L', u, h1, h2, rfl, h3⟩
  | cons o rest ih =>
    have ho : ops[k]? = some o := by simpa using (hk 0).symm
    have ih' := fun a w => ih (k := k + 1) (fun j => by have := hk (j + 1); simpa [Nat.add_assoc, Nat.add_comm 1 j] using this) a w
    simp only [List.length_cons, List.range'_succ, wpOpsS, ho]
    unfold wpList at h0
    split at h0
    · rename_i hw
      rw [if_pos hw]
      rcases h0 with h0 | h0
      · unfold Oper.wp at h0
        generalize (execOp a.eval o).run P w = r at h0 ⊢
        cases r with
        | ok x w' =>
          cases x <;> simp only [Oper.upon] at h0 ⊢
          case value v => exact ih' _ _ h0
          case skip => exact ih' _ _ h0
          case defer d => exact ih' _ _ h0
          case enter f args =>
            refine h0.mono ?_
            intro e w' h
            cases e with
            | returned v => exact ih' _ _ h
            | panicked ch =>
              obtain ⟨F', L', h1, h2, h3⟩ := h
              exact ⟨F', L', u, h1, h2, rfl, h3⟩
            | outgrown => exact absurd h hlet
          case row rw args => exact h0.mono fun v w' h => ih' _ _ h
        | halt x w' =>
          cases x <;> simp only [Oper.upon] at h0 ⊢
          case panic v =>
            obtain ⟨F', L', h1, h2, h3⟩ := h0
            exact ⟨F', L', u, h1, h2, rfl, h3⟩
      · exact absurd h0.2 hlet
    · rename_i hw
      rw [if_neg hw]
      exact ih' _ _ h0
/-- a panic is caught -/
theorem GS.catches {ops : Array Oper} {k : Nat} {o : Oper} {rest : List Oper} {v : Value} {older : List PanicEntry} {d : Nat} (ho : o.op = .call { callee := .builtin .recover, args := #[], argTypes := #[] }) (hg : o.guard = none) (hd : o.dst = some d) (hn : Nat.blt d n = true)
    (h : GS P W0 n SQ ops (k + 1) rest (.panicking ({ v, recovered := true } :: older)) (upd F d v) D L) : GS P W0 n SQ ops k (o :: rest) (.panicking ({ v, recovered := false } :: older)) F D L := by
  intro hk c0 cs a w hs hD hm
  have hok : ops[k]? = some o := by simpa using (hk 0).symm
  simp only [List.length_cons, List.range'_succ, wpOpsS, hok]
  rw [if_pos (by simp [Region.wanted, hg])]
  have hr : (execOp a.eval o).run P w = .ok .recover w := by simp [execOp, ho, resolve, invoke, builtin]
  simp only [hr, recoverD]
  exact h (fun j => by have := hk (j + 1); simpa [Nat.add_assoc, Nat.add_comm 1 j] using this) c0 cs _ w (hs.put hd hn v) (by rw [put_defers]; exact hD) hm
/-- there is none to catch -/
theorem GS.none {ops : Array Oper} {k : Nat} {o : Oper} {rest : List Oper} {d : Nat} (ho : o.op = .call { callee := .builtin .recover, args := #[], argTypes := #[] }) (hg : o.guard = none) (hd : o.dst = some d) (hn : Nat.blt d n = true)
    (h : GS P W0 n SQ ops (k + 1) rest .returning (upd F d .nilIface) D L) : GS P W0 n SQ ops k (o :: rest) .returning F D L := by
  intro hk c0 cs a w hs hD hm
  have hok : ops[k]? = some o := by simpa using (hk 0).symm
  simp only [List.length_cons, List.range'_succ, wpOpsS, hok]
  rw [if_pos (by simp [Region.wanted, hg])]
  have hr : (execOp a.eval o).run P w = .ok .recover w := by simp [execOp, ho, resolve, invoke, builtin]
  simp only [hr, recoverD]
  exact h (fun j => by have := hk (j + 1); simpa [Nat.add_assoc, Nat.add_comm 1 j] using this) c0 cs _ w (hs.put hd hn _) (by rw [put_defers]; exact hD) hm
theorem DfS.ofS {fn : Func} {f : FuncId} {c : Code} {args : List Value} {R : Ending → FrameMode → List Seg → Prop} (hf : P.funcs[f]? = some fn) (hb : fn.body = some c) (hn : Nat.ble args.length fn.ntmps = true)
    (h : CS P W0 fn.ntmps (dretPost P W0 fn R) c u (argF args) [] L) : DfS P W0 f args.toArray u L R := by
  intro w hm
  refine callsD_of_wpS hf hb ?_
  intro c0 cs hu b k hb' hr
  have hc : ({ c0 with mode := u } : Frame) = c0 := by subst hu; rfl
  have h0 := h c0 cs _ w (args_sl hn) rfl hm b k hb' hr
  rw [hc] at h0
  obtain ⟨e, a', cs', w', ⟨F', L', u', h1, h2, h3, h4⟩, harr⟩ := h0
  refine ⟨e, a', cs', w', ?_, harr⟩
  cases e with
  | normal =>
    obtain ⟨hd, v, hv, hR⟩ := h4
    exact ⟨hd, u', h3, v, hv _ _ h1 h2, L', h2, hR⟩
  | ret =>
    obtain ⟨hd, v, hv, hR⟩ := h4
    exact ⟨hd, u', h3, v, hv _ _ h1 h2, L', h2, hR⟩
  | panic ch =>
    obtain ⟨hd, hR⟩ := h4
    exact ⟨hd, u', h3, L', h2, hR⟩
  | exit id => exact h4.elim
  | goto l => exact h4.elim
  | outgrown => exact h4.elim
end

/-! ### Operations -/
section rules
variable {P : Program} {W0 : World} {n : Nat} {SQ : SPost} {F : Nat → Value} {D : List Deferred} {L : List Seg} {ops : Array Oper} {rest : List Oper} {o : Oper}
theorem G.deferF {c : Call} {x : Operand} {f : FuncId} {first captured : Array Value} (ho : o.op = .defer c) (hr : runs n ops F o) (hd : o.dst = none) (hc : c.callee = .value x) (hx : ev F x = .func (.func f) first captured)
    {args : List Value} (ha : first.toList ++ c.args.toList.map (ev F) = args) (k : G P W0 n SQ ops rest F ({ target := .fn (.func f) captured, args := args.toArray } :: D) L) : G P W0 n SQ ops (o :: rest) F D L :=
  G.defer _ hr hd (fun w _ => by
    have ha' : first ++ c.args.map (ev F) = args.toArray := by rw [← ha]; apply Array.ext'; simp
    simp [execOp, ho, resolve, hc, hx, Deferred.ofValue, ha']) k
theorem G.panic {x : Operand} {t : TypeId} {v : Value} (ho : o.op = .panic x) (hr : runs n ops F o) (hx : ev F x = .iface t v) (k : SQ (.panic [{ v := .iface t v, recovered := false }]) F D L) : G P W0 n SQ ops (o :: rest) F D L :=
  G.panics (.iface t v) hr (fun w hm => ⟨w, L, by simp [execOp, ho, hx, Instr.panic, goPanic], hm, k⟩)
theorem run_func_nil {t : TypeId} {a b : Array TypeId} {q : Bool} (hu : P.underlying t = some (.func a b q)) (fn : Fn) (x y : Array Value) (w : World) : (Op.equal t (.func fn x y) .nilFunc).run P w = .ok false w := by
  have h : ∀ d : Nat, (Op.equalIn (d + 1) t (.func fn x y) .nilFunc).run P w = .ok false w := fun d => by simp [Op.equalIn, run_underlying hu]
  exact h 9999
theorem run_nil_func {t : TypeId} {a b : Array TypeId} {q : Bool} (hu : P.underlying t = some (.func a b q)) (w : World) : (Op.equal t .nilFunc .nilFunc).run P w = .ok true w := by
  have h : ∀ d : Nat, (Op.equalIn (d + 1) t .nilFunc .nilFunc).run P w = .ok true w := fun d => by simp [Op.equalIn, run_underlying hu]
  exact h 9999
theorem G.fnEq {t yt : TypeId} {a b : Array TypeId} {q : Bool} {x y : Operand} {fn : Fn} {us vs : Array Value} (ho : o.op = .binOp .eql t x y yt) (hr : runs n ops F o) {d : Nat} (hd : o.dst = some d) (hn : Nat.blt d n = true) (hu : P.underlying t = some (.func a b q)) (hx : ev F x = .func fn us vs) (hy : ev F y = .nilFunc)
    (k : G P W0 n SQ ops rest (upd F d (.bool false)) D L) : G P W0 n SQ ops (o :: rest) F D L :=
  G.val _ hr hd hn (fun w _ => by simp [execOp, ho, hx, hy, eqGuard_plain, binOp, run_func_nil hu]) k
theorem G.fnNil {t yt : TypeId} {a b : Array TypeId} {q : Bool} {x y : Operand} (ho : o.op = .binOp .eql t x y yt) (hr : runs n ops F o) {d : Nat} (hd : o.dst = some d) (hn : Nat.blt d n = true) (hu : P.underlying t = some (.func a b q)) (hx : ev F x = .nilFunc) (hy : ev F y = .nilFunc)
    (k : G P W0 n SQ ops rest (upd F d (.bool true)) D L) : G P W0 n SQ ops (o :: rest) F D L :=
  G.val _ hr hd hn (fun w _ => by simp [execOp, ho, hx, hy, eqGuard_plain, binOp, run_nil_func hu]) k
theorem G.isType {x : Operand} {xt t : TypeId} {td : TypeDesc} {v : Value} (ho : o.op = .typeAssert x xt t true) (hr : runs n ops F o) {d : Nat} (hd : o.dst = some d) (hn : Nat.blt d n = true) (hu : P.underlying t = some td) (hni : notIface td = true) (hx : ev F x = .iface t v)
    (k : G P W0 n SQ ops rest (upd F d (.tuple #[v, .bool true])) D L) : G P W0 n SQ ops (o :: rest) F D L :=
  G.val _ hr hd hn (fun w _ => by
    cases td <;> simp_all [notIface] <;> simp [execOp, ho, hx, Instr.typeAssert, run_underlying hu]) k
theorem G.notType {x : Operand} {xt t t2 : TypeId} {td : TypeDesc} {v z : Value} {sz by_ : Nat} (ho : o.op = .typeAssert x xt t true) (hr : runs n ops F o) {d : Nat} (hd : o.dst = some d) (hn : Nat.blt d n = true) (hu : P.underlying t = some td) (hni : notIface td = true) (hi : Inf P t sz by_ z) (hx : ev F x = .iface t2 v) (hne : t2 ≠ t)
    (k : G P W0 n SQ ops rest (upd F d (.tuple #[z, .bool false])) D L) : G P W0 n SQ ops (o :: rest) F D L :=
  G.val _ hr hd hn (fun w _ => by
    have hz : ∀ w, (zeroValue t).run P w = .ok z w := fun w => hi.run_zero
    cases td <;> simp_all [notIface] <;> simp [execOp, ho, hx, Instr.typeAssert, run_underlying hu, hne, hz]) k
theorem G.noType {x : Operand} {xt t : TypeId} {td : TypeDesc} {z : Value} {sz by_ : Nat} (ho : o.op = .typeAssert x xt t true) (hr : runs n ops F o) {d : Nat} (hd : o.dst = some d) (hn : Nat.blt d n = true) (hu : P.underlying t = some td) (hni : notIface td = true) (hi : Inf P t sz by_ z) (hx : ev F x = .nilIface)
    (k : G P W0 n SQ ops rest (upd F d (.tuple #[z, .bool false])) D L) : G P W0 n SQ ops (o :: rest) F D L :=
  G.val _ hr hd hn (fun w _ => by
    have hz : ∀ w, (zeroValue t).run P w = .ok z w := fun w => hi.run_zero
    cases td <;> simp_all [notIface] <;> simp [execOp, ho, hx, Instr.typeAssert, run_underlying hu, hz]) k
theorem G.extractL {x : Operand} {i : Nat} {vs : List Value} {v : Value} (ho : o.op = .extract x i) (hr : runs n ops F o) {d : Nat} (hd : o.dst = some d) (hn : Nat.blt d n = true) (hx : ev F x = .tuple vs.toArray) (hv : vs[i]? = some v) (k : G P W0 n SQ ops rest (upd F d v) D L) : G P W0 n SQ ops (o :: rest) F D L :=
  G.extract ho hr hd hn hx (by simpa using hv) k
theorem Y.extractL {x : Operand} {i : Nat} {vs : List Value} {v : Value} (ho : o.op = .extract x i) (hx : ev F x = .tuple vs.toArray) (hv : vs[i]? = some v) : ∀ w, (execOp (ev F) o).run P w = .ok (.value v) w :=
  Y.extract ho hx (by simpa using hv)
theorem G.makeFuncL {fn : Fn} {first captured : Array Operand} {l1 l2 : List Value} (ho : o.op = .makeFunc fn first captured) (hr : runs n ops F o) {d : Nat} (hd : o.dst = some d) (hn : Nat.blt d n = true) (h1 : first.toList.map (ev F) = l1) (h2 : captured.toList.map (ev F) = l2) (k : G P W0 n SQ ops rest (upd F d (.func fn l1.toArray l2.toArray)) D L) : G P W0 n SQ ops (o :: rest) F D L :=
  G.makeFunc ho hr hd hn (by
    have e1 : first.map (ev F) = l1.toArray := by rw [← h1]; apply Array.ext'; simp
    have e2 : captured.map (ev F) = l2.toArray := by rw [← h2]; apply Array.ext'; simp
    rw [e1, e2]; exact k)
theorem Y.makeFuncL {fn : Fn} {first captured : Array Operand} {l1 l2 : List Value} (ho : o.op = .makeFunc fn first captured) (h1 : first.toList.map (ev F) = l1) (h2 : captured.toList.map (ev F) = l2) : ∀ w, (execOp (ev F) o).run P w = .ok (.value (.func fn l1.toArray l2.toArray)) w := by
  intro w
  rw [Y.makeFunc ho w]
  have e1 : first.map (ev F) = l1.toArray := by rw [← h1]; apply Array.ext'; simp
  have e2 : captured.map (ev F) = l2.toArray := by rw [← h2]; apply Array.ext'; simp
  rw [e1, e2]
/-- an operation whose guard was itself left out -/
theorem G.skipU {j t : Nat} {b : Bool} (hg : o.guard = some (j, b)) (h1 : (ops[j]?).bind (·.dst) = some t) (h2 : Nat.blt t n = true) (h3 : F t = undef)
    {d : Nat} (hd : o.dst = some d) (hn : Nat.blt d n = true) (k : G P W0 n SQ ops rest (upd F d undef) D L) : G P W0 n SQ ops (o :: rest) F D L := by
  intro a w hs hD hm
  unfold wpList
  have hlt : t < a.tmps.size := by rw [hs.size]; exact Nat.le_of_ble_eq_true h2
  have ht := hs.at_ t
  rw [h3] at ht
  have hy : yielded ops a.tmps j = none := by
    unfold yielded
    rw [h1]
    simp only [Option.bind_some]
    simp only [Array.getD, hlt, dif_pos] at ht
    simp only [hlt, getElem?_pos]
    rw [show a.tmps[t] = undef from ht]
    rfl
  have hw : Region.wanted o (yielded ops a.tmps) = false := by
    unfold Region.wanted
    rw [hg]
    simp only [hy]
    first | rfl | (cases b <;> rfl)
  rw [if_neg (by simp [hw])]
  exact k _ w (hs.put hd hn _) (by rw [put_defers]; exact hD) hm
theorem At.app {b : Nat} {o : SObj} {S : List Seg} {u : Nat → SObj → List Seg} (h : At L b o u) : At (S ++ L) b o (fun b' o' => S ++ u b' o') := by
  obtain ⟨pre, post, h1, h2⟩ := h
  exact ⟨S.flatten ++ pre, post, by simp [h1], fun b' o' => by simp [h2]⟩
theorem G.sliceStrH {t : TypeId} {x up : Operand} {s : ByteArray} {kh : IntKind} {h : Int} (ho : o.op = .slice t x none (some up) none) (hr : runs n ops F o) {d : Nat} (hd : o.dst = some d) (hn : Nat.blt d n = true)
    (hu : P.underlying t = some .string) (hx : ev F x = .string s) (hh : ev F up = .int kh h) (hb : 0 ≤ h ∧ h ≤ s.size)
    (k : G P W0 n SQ ops rest (upd F d (.string (s.extract 0 h.toNat))) D L) : G P W0 n SQ ops (o :: rest) F D L :=
  G.val _ hr hd hn (fun w _ => by
    obtain ⟨h1, h3⟩ := hb
    simp [execOp, ho, hx, hh, Instr.sliceAt, Instr.slice, Instr.sliceBounds, run_underlying hu, run_sliceBound, h1, h3]) k
theorem At.again {b : Nat} {o : SObj} {u : Nat → SObj → List Seg} (h : At L b o u) (o' : SObj) : At (u b o') b o' u := by
  obtain ⟨pre, post, _, h2⟩ := h
  exact ⟨pre, post, h2 b o', h2⟩
theorem At.same {b : Nat} {o : SObj} {u : Nat → SObj → List Seg} (h : At L b o u) : (u b o).flatten = L.flatten := by
  obtain ⟨pre, post, h1, h2⟩ := h
  rw [h1, h2]
theorem G.storeS {t : TypeId} {x y : Operand} {b off : Nat} {cs vs : List Value} {e : TypeId} {kk sz by_ : Nat} {z : Value} {u : Nat → SObj → List Seg} (ha : At L b (.row cs e kk) u) (ho : o.op = .store t x y) (hr : runs n ops F o) (hd : o.dst = none)
    (hi : Inf P t sz by_ z) (hx : ev F x = .pointer (some ⟨b, off, none⟩)) (hy : ev F y = .agg vs.toArray) (hl : vs.length = sz) (hok : ∀ v ∈ vs, cellsOk v = true) (hlt : off + vs.length ≤ cs.length)
    (cs' : List Value) (hcs : cs.take off ++ vs ++ cs.drop (off + vs.length) = cs') (k : G P W0 n SQ ops rest F D (u b (.row cs' e kk))) : G P W0 n SQ ops (o :: rest) F D L :=
  G.less (L' := u b (.row cs e kk)) (fun _ hm => hm.of_flat (by rw [ha.same])) (G.storeAgg (fun o' => ha.again o') rfl ho hr hd hi hx hy hl hok hlt (by rw [hcs]; exact k))
/-! ### An index out of range -/
theorem run_boundsPanic (x y : Int) (code : BoundsCode) (w : World) : ∃ vs w', (boundsPanic (α := Value) .i64 x y code).run P w = .halt (.panic (.iface P.rt.boundsError (.agg vs))) w' ∧ (w' = w ∨ w' = w.drew) := by
  have key : (∃ vs, (boundsPanic (α := Value) .i64 x y code).run P w = .halt (.panic (.iface P.rt.boundsError (.agg vs))) w) ∨ ∃ vs, (boundsPanic (α := Value) .i64 x y code).run P w = .halt (.panic (.iface P.rt.boundsError (.agg vs))) w.drew := by
    by_cases h : 0 ≤ x ∧ x ≤ 31
    · by_cases hf : (Question.extern "runtime.boundsError.signed" 2).forced = true
      · left
        simp [boundsPanic, h, hf, runtimePanic, goPanic]
      · right
        simp [boundsPanic, h, hf, runtimePanic, goPanic]
    · left
      simp [boundsPanic, h, runtimePanic, goPanic]
  rcases key with ⟨vs, h⟩ | ⟨vs, h⟩
  · exact ⟨vs, w, h, .inl rfl⟩
  · exact ⟨vs, w.drew, h, .inr rfl⟩
theorem G.indexPanics {t e : TypeId} {x y : Operand} {a : Option Addr} {l c : Nat} {i : Int} (ho : o.op = .indexAddr t x y) (hr : runs n ops F o)
    (hu : P.underlying t = some (.slice e)) (hx : ev F x = .slice a l c) (hy : ev F y = .int .i64 i) (h : ¬ (0 ≤ i ∧ i < l))
    (k : ∀ vs, SQ (.panic [{ v := .iface P.rt.boundsError (.agg vs), recovered := false }]) F D L) : G P W0 n SQ ops (o :: rest) F D L := by
  intro aa w hs hD hm
  unfold wpList
  rw [if_pos (wanted_of hs hr)]
  refine .inl ?_
  unfold Oper.wp
  rw [hs.eval_fun]
  cases a with
  | none =>
    obtain ⟨vs, w', h1, h2⟩ := run_boundsPanic (P := P) i ((0 : Nat) : Int) .index w
    have he : (execOp (ev F) o).run P w = .halt (.panic (.iface P.rt.boundsError (.agg vs))) w' := by
      simp [execOp, ho, hx, hy, Instr.indexAt, asIntOf, run_underlying hu]
      have h1' := h1
      simp only [Int.ofNat_zero, Int.natCast_zero] at h1'
      rw [h1']
      rfl
    rw [he]
    exact ⟨F, L, hs, by rcases h2 with rfl | rfl; exact hm; exact hm.drew, hD ▸ k vs⟩
  | some a =>
    obtain ⟨vs, w', h1, h2⟩ := run_boundsPanic (P := P) i (l : Int) .index w
    have he : (execOp (ev F) o).run P w = .halt (.panic (.iface P.rt.boundsError (.agg vs))) w' := by
      simp [execOp, ho, hx, hy, Instr.indexAt, asIntOf, run_underlying hu]
      rw [if_neg h, h1]
      rfl
    rw [he]
    exact ⟨F, L, hs, by rcases h2 with rfl | rfl; exact hm; exact hm.drew, hD ▸ k vs⟩

/-! ### A struct out of its parts -/
def setAt (cs : List Value) (off : Nat) : List Value → List Value
  | [] => cs
  | c :: r => setAt (cs.set off c) (off + 1) r
def fillL (places : List (Nat × Nat)) (cs : List Value) : List (Nat × Value) → Option (List Value)
  | [] => some cs
  | (i, v) :: rest =>
    match places[i]? with
    | none => none
    | some (off, size) => bif Nat.beq v.cells.toList.length size && Nat.ble (off + v.cells.toList.length) cs.length then fillL places (setAt cs off v.cells.toList) rest else none
theorem setAt_length (l : List Value) : ∀ (cs : List Value) (off : Nat), (setAt cs off l).length = cs.length := by
  induction l with
  | nil => intro cs off; rfl
  | cons c r ih => intro cs off; simp [setAt, ih]
theorem setAt_fold (off : Nat) (l : List Value) : ∀ (k : Nat) (cs : Array Value), ((l.zipIdx k).foldl (fun cs (x : Value × Nat) => cs.setIfInBounds (off + x.2) x.1) cs).toList = setAt cs.toList (off + k) l := by
  induction l with
  | nil => intro k cs; rfl
  | cons c r ih =>
    intro k cs
    simp only [List.zipIdx_cons, List.foldl_cons, setAt]
    rw [ih]
    simp [Nat.add_assoc]
theorem fill_fillL (places : List (Nat × Nat)) (ps : List (Nat × Value)) : ∀ (cells : Array Value) (cs : List Value), fillL places cells.toList ps = some cs → Instr.fill (fun i => places[i]?) cells ps = some cs.toArray := by
  induction ps with
  | nil =>
    intro cells cs h
    simp only [fillL, Option.some.injEq] at h
    subst h
    rfl
  | cons p rest ih =>
    obtain ⟨i, v⟩ := p
    intro cells cs h
    simp only [fillL] at h
    simp only [Instr.fill]
    cases hp : places[i]? with
    | none => rw [hp] at h; cases h
    | some q =>
      obtain ⟨off, size⟩ := q
      rw [hp] at h
      simp only at h ⊢
      cases hb : Nat.beq v.cells.toList.length size && Nat.ble (off + v.cells.toList.length) cells.toList.length with
      | false => rw [hb] at h; cases h
      | true =>
        rw [hb] at h
        simp only [cond_true] at h
        simp only [Bool.and_eq_true] at hb
        have h1 := Nat.eq_of_beq_eq_true hb.1
        have h2 := Nat.le_of_ble_eq_true hb.2
        simp only [Array.length_toList] at h1 h2
        have hn : ¬ (v.cells.size ≠ size ∨ off + v.cells.size > cells.size) := by omega
        have hn2 : ¬ ((decide (v.cells.size ≠ size) || decide (off + v.cells.size > cells.size)) = true) := by simpa using hn
        rw [if_neg hn2]
        refine ih _ cs ?_
        rw [← h]
        congr 1
        rw [← Array.foldl_toList, Array.toList_zipIdx, setAt_fold]
        simp
def Places (P : Program) (t : TypeId) (places : List (Nat × Nat)) : Prop :=
  ∀ fs, P.underlying t = some (.struct fs) → ∀ w, (fs.mapM (m := Sem) fun f => do pure (f.offset, ← sizeOf f.type)).run P w = .ok places.toArray w
theorem G.buildL {t : TypeId} {parts : Array (Nat × Operand)} {fs : Array Field} {sz by_ : Nat} {z : Value} {cs : List Value} {places : List (Nat × Nat)} (ho : o.op = .build t parts) (hr : runs n ops F o) {d : Nat} (hd : o.dst = some d) (hn : Nat.blt d n = true) (hu : P.underlying t = some (.struct fs)) (hi : Inf P t sz by_ z)
    (hp : Places P t places) {ps : List (Nat × Value)} (hps : parts.toList.map (fun p => (p.1, ev F p.2)) = ps) (hf : fillL places z.cells.toList ps = some cs)
    (k : G P W0 n SQ ops rest (upd F d (.agg cs.toArray)) D L) : G P W0 n SQ ops (o :: rest) F D L :=
  G.build ho hr hd hn hu hi places.toArray (hp fs hu) (by
    rw [← fill_fillL places ps z.cells cs hf, ← hps]
    congr 1
    · funext i; simp
    · simp) k
theorem Y.buildL {t : TypeId} {parts : Array (Nat × Operand)} {fs : Array Field} {sz by_ : Nat} {z : Value} {cs : List Value} {places : List (Nat × Nat)} (ho : o.op = .build t parts) (hu : P.underlying t = some (.struct fs)) (hi : Inf P t sz by_ z)
    (hp : Places P t places) {ps : List (Nat × Value)} (hps : parts.toList.map (fun p => (p.1, ev F p.2)) = ps) (hf : fillL places z.cells.toList ps = some cs) : ∀ w, (execOp (ev F) o).run P w = .ok (.value (.agg cs.toArray)) w := by
  intro w
  have hz : ∀ w, (zeroValue t).run P w = .ok z w := fun w => hi.run_zero
  have hf2 : Instr.fill (places.toArray[·]?) z.cells (parts.map (fun (i, x) => (i, ev F x))).toList = some cs.toArray := by
    rw [← fill_fillL places ps z.cells cs hf, ← hps]
    congr 1
    · funext i; simp
    · simp
  simp only [execOp, ho, Instr.build, Sem.run_bind, hz, Result.andThen_ok, run_underlying hu, hp fs hu w, hf2, Sem.run_pure]
end rules
end Go.SL
