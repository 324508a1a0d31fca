/-
  slices.Insert of a cell of the tree, ahead of another one: walked, where there is room and where there is none.
-/
import Derived.Test.YtokggoikffcijaaGreatDoorK1
import Derived.Test.YtokggoikffcijaaGreatDoorK2
import Derived.Test.YtokggoikffcijaaGreatDoorTy
import Derived.Lib.Overlaps
namespace Go.Proofs.YtokggoikffcijaaGreatDoor
open Go Go.SL Go.RowKit
theorem capI : Inf Tryz.prog 173 8 88 (.agg #[.string ⟨#[]⟩, .int .i64 0, .float .f64 0, .string ⟨#[]⟩, .int .i64 0, .int .i64 0, .float .f64 0, .string ⟨#[]⟩]) := Inf.of (by kernel_rfl)
section rules
variable {P : Program} {W0 : World} {n : Nat} {SQ : SPost} {F : Nat → Value} {D : List Deferred} {L : List Seg} {ops : Array Oper} {rest : List Oper} {o : Oper}
theorem G.capSlice {x : Operand} {t e : TypeId} {a : Option Addr} {l c : Nat} (ho : o.op = .call { callee := .builtin .cap, args := #[x], argTypes := #[t] }) (hr : runs n ops F o) {d : Nat} (hd : o.dst = some d) (hn : Nat.blt d n = true)
    (hu : P.underlying t = some (.slice e)) (hx : ev F x = .slice a l c) (k : G P W0 n SQ ops rest (upd F d (.int .i64 c)) D L) : G P W0 n SQ ops (o :: rest) F D L :=
  G.val _ hr hd hn (fun w _ => by simp [execOp, ho, hx, resolve, invoke, builtin, Builtin.cap_, run_underlying hu, goInt]) k
theorem G.callX {c : Call} {f : FuncId} {args : List Value} {v : Value} (ho : o.op = .call c) (hc : c.callee = .value (.func f)) (hr : runs n ops F o) {d : Nat} (hd : o.dst = some d) (hn : Nat.blt d n = true) (hargs : c.args.toList.map (ev F) = args)
    (hrun : ∀ w, Mem W0 w L → (callFunc f args.toArray).run P w = .ok (.value v) w) (k : G P W0 n SQ ops rest (upd F d v) D L) : G P W0 n SQ ops (o :: rest) F D L :=
  G.val _ hr hd hn (fun w hm => by
    have hq : c.args.map (ev F) = args.toArray := by apply Array.ext'; simp [hargs]
    have := hrun w hm
    rw [← hq] at this
    simp [execOp, ho, resolve, hc, Deferred.ofValue, ev, invoke, this]) k
/-- so many zero values behind a slice that has no room for them -/
theorem G.appendZ {s x : Operand} {t t2 e : TypeId} {kd : IntKind} {b l c m sz by_ : Nat} {z : Value} {cs : List Value} {kk : Nat} {u : Nat → SObj → List Seg} (ha : At L b (.row cs e kk) u) (ho : o.op = .call { callee := .builtin .append, args := #[s, x], argTypes := #[t, t2] }) (hr : runs n ops F o) {d : Nat} (hd : o.dst = some d) (hn : Nat.blt d n = true)
    (hu : P.underlying t = some (.slice e)) (hu2 : P.underlying t2 = some (.int kd)) (hi : Inf P e sz by_ z) (hz : z.cells.size = sz) (hsz : 0 < sz) (hby : 0 < by_) (hx : ev F s = .slice (some ⟨b, 0, none⟩) l c) (hy : ev F x = .int .i64 (m : Int)) (hc : c < l + m) (hl : l * sz ≤ cs.length) (hbig : (l + m) * by_ ≤ 140737488355328) (hm2 : m ≤ 9223372036854775807)
    (k : ∀ b' c', l + m ≤ c' → G P W0 n SQ ops rest (upd F d (.slice (some ⟨b', 0, none⟩) (l + m) c')) D ([(b', .row (cs.take (l * sz) ++ Ev.reps m z.cells.toList) e (c' * sz))] :: L)) : G P W0 n SQ ops (o :: rest) F D L :=
  G.eff hr hd hn fun w hm => by
    have hA := Ev.AppP.zeros (P := P) (t := t) (t2 := t2) (ty := o.type) (kx := .i64) (s := .slice (some ⟨b, 0, none⟩) l c) (w := w) hu hu2 hi hz hsz hby (m := m) (Nat.le_trans (Nat.mul_le_mul_right _ (Nat.le_add_left m l)) hbig) hm2
    have hrow := (hm.get ha).2
    have hfc : (Builtin.firstCells sz l (.slice (some ⟨b, 0, none⟩) l c)).run P w.drew = .ok (cs.take (l * sz)).toArray w.drew := by
      simp only [Builtin.firstCells]
      have hlen : (cs.take (l * sz)).length = l * sz := by rw [List.length_take]; omega
      have key := run_loadCells_list (P := P) w.drew ⟨b, 0, none⟩ (cs.take (l * sz)) ?_
      · rw [hlen] at key; exact key
      intro j v hv
      rw [add_mul_addr, Nat.zero_add]
      have hj : j < l * sz := by rw [← hlen]; exact (List.getElem?_eq_some_iff.1 hv).1
      rw [List.getElem?_take, if_pos hj] at hv
      exact (Holds.block rfl hrow : Holds w.drew b (.row cs e kk)).cell hv
    obtain ⟨c', h1, h2⟩ := hA.new _ l c _ rfl hc hbig hfc
    have e1 : ((cs.take (l * sz)).toArray ++ (Ev.reps m z.cells.toList).toArray ++ Builtin.zeroCells z.cells (c' - (l + m))) = ((cs.take (l * sz) ++ Ev.reps m z.cells.toList) ++ (Builtin.zeroCells z.cells (c' - (l + m))).toList).toArray := by apply Array.ext'; simp
    have hzs : z.cells.toList.length = sz := by simpa using hz
    have hcl : (cs.take (l * sz) ++ Ev.reps m z.cells.toList).length = (l + m) * sz := by rw [List.length_append, List.length_take, Ev.reps_length, hzs, Nat.add_mul]; omega
    have e2 : ((cs.take (l * sz) ++ Ev.reps m z.cells.toList) ++ (Builtin.zeroCells z.cells (c' - (l + m))).toList).length = c' * sz := by
      have : (Builtin.zeroCells z.cells (c' - (l + m))).size = (c' - (l + m)) * sz := by simp [Builtin.zeroCells, hz]
      rw [List.length_append, hcl, Array.length_toList, this, ← Nat.add_mul]; congr 1; omega
    rw [e1] at h2
    have hm' := hm.drew.alloc _ (Holds.spare w.drew (cs.take (l * sz) ++ Ev.reps m z.cells.toList) (Builtin.zeroCells z.cells (c' - (l + m))).toList e)
    rw [e2] at hm'
    refine ⟨_, _, _, ?_, hm', k w.heap.size c' h1⟩
    simp only [execOp, ho, resolve, invoke, builtin, Sem.run_bind, Sem.run_pure, Result.andThen_ok, List.map_toArray, List.map_cons, List.map_nil, hx, hy, h2]
/-- cells behind those that are known -/
theorem G.reveal {b : Nat} {cs : List Value} {t : TypeId} {k m : Nat} {L0 : List Seg} (hk : cs.length + m ≤ k) (h : ∀ ex : List Value, ex.length = m → G P W0 n SQ ops rest F D ([(b, .row (cs ++ ex) t k)] :: L0)) : G P W0 n SQ ops rest F D ([(b, .row cs t k)] :: L0) := by
  intro a w hs hD hm
  obtain ⟨h0, r, fr, h1, h2, h3⟩ := hm.get At.here
  have hl : (r.take m).length = m := by
    rw [List.length_append] at h2
    rw [List.length_take]; omega
  refine h (r.take m) hl a w hs hD (hm.change At.here hm.below (fun _ _ _ => rfl) (.inl rfl) ⟨r.drop m, fr, ?_, ?_, h3⟩)
  · rw [List.append_assoc, List.take_append_drop]; exact h1
  · rw [List.append_assoc, List.take_append_drop]; exact h2
end rules
theorem over394 : ∃ fn, Tryz.prog.funcs[394]? = some fn ∧ (fn.name == "runtime.NumGoroutine") = false ∧ fn.body.isNone = true ∧ (Extern.findNext fn).isNone = true ∧ Extern.find fn = some (Extern.SlicesOverlaps.overlaps #[169, 169] #[4]) := ⟨Tryz.f394, (by kernel_rfl : Tryz.prog.funcs[394]? = some Tryz.f394), by kernel_rfl, by kernel_rfl, by kernel_rfl, by kernel_rfl⟩
/-- two rows of cells of which neither is bytes, in two blocks, do not overlap -/
theorem apart394 {W0 w : World} {L : List Seg} {a b : Nat} {ca cb : List Value} {ka kb oa ob la lb xa xb : Nat} {u v : Nat → SObj → List Seg} (hm : Mem W0 w L) (ha : At L a (.row ca 173 ka) u) (hb : At L b (.row cb 173 kb) v) (hne : a ≠ b) (hkb : kb ≠ 0) (hoa : oa < ka) :
    (callFunc 394 [Value.slice (some ⟨a, oa, none⟩) la xa, .slice (some ⟨b, ob, none⟩) lb xb].toArray).run Tryz.prog w = .ok (.value (.bool false)) w := by
  obtain ⟨fn, h1, h2, h3, h4, h5⟩ := over394
  have h4' : Extern.findNext fn = none := by simpa using h4
  obtain ⟨_, ra, fa, p1, p2, p3⟩ := hm.get ha
  obtain ⟨_, rb, fb, q1, q2, q3⟩ := hm.get hb
  have p3 : fa = (0, 0) := p3.resolve_right fun h => absurd h.2 (by decide)
  subst p3
  have hsa : w.shape? a = some (173, ka) := by simp [World.shape?, p1, ← p2]
  have hsb : w.shape? b = some (173, kb) := by simp [World.shape?, q1, ← q2]
  have hrun := Lib.run_overlaps_apart (P := Tryz.prog) w 169 4 173 Tryz.underlying169 8 (fun w => capI.run_size) ⟨a, oa, none⟩ ⟨b, ob, none⟩ la xa lb xb hne _ _ ka kb hsa hsb hkb (by simp [World.frozen?, p1]) (by simp [World.frozen?, p1])
  have hmk : (mark (.extern 394)).run Tryz.prog w = .ok () w := rfl
  simp only [callFunc, Sem.run_bind, run_program, Result.andThen_ok, h1, h2, h3]
  simp [hmk, h4', h5, hrun]
theorem cutA_at {b c l : Nat} (h : c ≠ l) : cutA (some ⟨b, 0, none⟩) c l 8 = some ⟨b, l * 8, none⟩ := by
  rw [cutA, if_neg h]
  simp [add_mul_addr]
def insC (i : Nat) (cs vs : List Value) : List Value := cs.take (i * 8) ++ vs ++ cs.drop (i * 8)
theorem insC_length {i n : Nat} {cs vs : List Value} (h : cs.length = n * 8) (hv : vs.length = 8) (hi : i ≤ n) : (insC i cs vs).length = (n + 1) * 8 := by
  unfold insC
  simp only [List.length_append, List.length_take, List.length_drop, h, hv]; omega
theorem ins_new {i n : Nat} {cs vs Z : List Value} (hcs : cs.length = n * 8) (hvs : vs.length = 8) (hi : i < n) (hz : Z.length = (n + 1 - i) * 8) :
    (cs.take (i * 8) ++ vs ++ Z.drop 8).take ((i + 1) * 8) ++ cs.drop (i * 8) ++ (cs.take (i * 8) ++ vs ++ Z.drop 8).drop ((i + 1) * 8 + (cs.drop (i * 8)).length) = insC i cs vs := by
  have htl : (cs.take (i * 8)).length = i * 8 := by rw [List.length_take]; omega
  have h1 : (cs.take (i * 8) ++ vs ++ Z.drop 8).take ((i + 1) * 8) = cs.take (i * 8) ++ vs := by
    rw [List.take_append_of_le_length (by rw [List.length_append, htl, hvs]; omega), List.take_of_length_le (by rw [List.length_append, htl, hvs]; omega)]
  have h2 : (cs.take (i * 8) ++ vs ++ Z.drop 8).drop ((i + 1) * 8 + (cs.drop (i * 8)).length) = [] := List.drop_eq_nil_of_le (by simp only [List.length_append, List.length_drop, htl, hvs, hz, hcs]; omega)
  rw [h1, h2, List.append_nil]
  rfl
theorem ins_old {i n : Nat} {cs ex : List Value} (hcs : cs.length = n * 8) (hi : i < n) (hex : ex.length = 8) :
    (cs ++ ex).take ((i + 1) * 8) ++ cs.drop (i * 8) ++ (cs ++ ex).drop ((i + 1) * 8 + (cs.drop (i * 8)).length) = cs.take ((i + 1) * 8) ++ cs.drop (i * 8) := by
  have h1 : (cs ++ ex).take ((i + 1) * 8) = cs.take ((i + 1) * 8) := List.take_append_of_le_length (by omega)
  have h2 : (cs ++ ex).drop ((i + 1) * 8 + (cs.drop (i * 8)).length) = [] := List.drop_eq_nil_of_le (by simp only [List.length_append, List.length_drop, hex, hcs]; omega)
  rw [h1, h2, List.append_nil]
theorem ins_old2 {i n : Nat} {cs vs : List Value} (hcs : cs.length = n * 8) (hvs : vs.length = 8) (hi : i < n) :
    (cs.take ((i + 1) * 8) ++ cs.drop (i * 8)).take (i * 8) ++ vs ++ (cs.take ((i + 1) * 8) ++ cs.drop (i * 8)).drop (i * 8 + vs.length) = insC i cs vs := by
  have htl : (cs.take ((i + 1) * 8)).length = (i + 1) * 8 := by rw [List.length_take]; omega
  have h1 : (cs.take ((i + 1) * 8) ++ cs.drop (i * 8)).take (i * 8) = cs.take (i * 8) := by
    rw [List.take_append_of_le_length (by omega), List.take_take, show min (i * 8) ((i + 1) * 8) = i * 8 by omega]
  have h2 : (cs.take ((i + 1) * 8) ++ cs.drop (i * 8)).drop (i * 8 + vs.length) = cs.drop (i * 8) := by
    rw [hvs, show i * 8 + 8 = (cs.take ((i + 1) * 8)).length by omega, List.drop_left]
  rw [h1, h2]
  rfl
theorem insert_spec (W0 : World) (L0 : List Seg) (b kk n c i bv kv cv : Nat) (cs vs : List Value) (hcs : cs.length = n * 8) (hvs : vs.length = 8) (hi : i < n) (hn : n ≤ 1000000) (hc : n ≤ c) (hck : c * 8 = kk) (hkv : 0 < kv) (hne : bv ≠ b) (hok : ∀ x ∈ cs, cellsOk x = true) (hokv : ∀ x ∈ vs, cellsOk x = true) :
    FnS Tryz.prog W0 353 #[.slice (some ⟨b, 0, none⟩) n c, .int .i64 (i : Int), .slice (some ⟨bv, 0, none⟩) 1 cv] ([(b, .row cs 173 kk)] :: [(bv, .row vs 173 kv)] :: L0)
      (fun e L' => ∃ b' c', n + 1 ≤ c' ∧ L' = [(b', .row (insC i cs vs) 173 (c' * 8))] :: [(bv, .row vs 173 kv)] :: L0 ∧ e = .returned (.slice (some ⟨b', 0, none⟩) (n + 1) c')) := by
  refine FnS.of (args := [.slice (some ⟨b, 0, none⟩) n c, .int .i64 (i : Int), .slice (some ⟨bv, 0, none⟩) 1 cv]) Tryz.func353 rfl rfl ?_
  refine C.seq ?_
  refine C.region ?_
  refine G.assignS rfl trivial rfl rfl rfl ?_
  refine G.nil ?_
  refine C.seq ?_
  refine C.region ?_
  refine G.moveS rfl trivial rfl rfl rfl ?_
  refine G.moveI rfl trivial rfl rfl rfl ?_
  refine G.sliceL rfl trivial rfl rfl Tryz.underlying169 I173 rfl rfl (by omega) ?_
  refine G.nil ?_
  refine C.seq ?_
  refine C.region ?_
  refine G.moveS rfl trivial rfl rfl rfl ?_
  refine G.lenSlice rfl trivial rfl rfl Tryz.underlying169 rfl ?_
  refine G.assignI rfl trivial rfl rfl rfl ?_
  refine G.nil ?_
  refine C.seq ?_
  refine C.seq ?_
  refine C.region ?_
  refine G.moveI rfl trivial rfl rfl rfl ?_
  refine G.bin rfl trivial rfl rfl rfl rfl rfl ?_
  refine G.nil ?_
  refine C.condF rfl ?_
  refine C.skip ?_
  refine C.seq ?_
  refine C.region ?_
  refine G.moveS rfl trivial rfl rfl rfl ?_
  refine G.lenSlice rfl trivial rfl rfl Tryz.underlying169 rfl ?_
  refine G.assignI rfl trivial rfl rfl rfl ?_
  refine G.nil ?_
  refine C.seq ?_
  refine C.seq ?_
  refine C.region ?_
  refine G.moveI rfl trivial rfl rfl rfl ?_
  refine G.moveI rfl trivial rfl rfl rfl ?_
  refine G.bin rfl trivial rfl rfl rfl rfl rfl ?_
  refine G.nil ?_
  refine C.no rfl (by omega) ?_
  refine C.skip ?_
  refine C.seq ?_
  refine C.seq ?_
  refine C.region ?_
  refine G.moveI rfl trivial rfl rfl rfl ?_
  refine G.moveI rfl trivial rfl rfl rfl ?_
  refine G.add rfl trivial rfl rfl rfl rfl (by omega) ?_
  refine G.moveS rfl trivial rfl rfl rfl ?_
  refine G.capSlice rfl trivial rfl rfl Tryz.underlying169 rfl ?_
  refine G.bin rfl trivial rfl rfl rfl rfl rfl ?_
  refine G.nil ?_
  refine C.cond _ rfl ?_ ?_
  · intro hc2
    refine C.seq ?_
    refine C.region ?_
    have hcn : c = n := by omega
    have hzl : (Ev.reps (n + 1 - i) (Value.agg #[.string ⟨#[]⟩, .int .i64 0, .float .f64 0, .string ⟨#[]⟩, .int .i64 0, .int .i64 0, .float .f64 0, .string ⟨#[]⟩]).cells.toList).length = (n + 1 - i) * 8 := by rw [Ev.reps_length]; rfl
    refine G.moveS rfl trivial rfl rfl rfl ?_
    refine G.moveI rfl trivial rfl rfl rfl ?_
    refine G.sliceH rfl trivial rfl rfl Tryz.underlying169 I173 rfl rfl (by omega) ?_
    refine G.moveI rfl trivial rfl rfl rfl ?_
    refine G.moveI rfl trivial rfl rfl rfl ?_
    refine G.add rfl trivial rfl rfl rfl rfl (by omega) ?_
    refine G.moveI rfl trivial rfl rfl rfl ?_
    refine G.sub rfl trivial rfl rfl rfl rfl (by omega) ?_
    refine G.fix (d := 39) (v := .int .i64 ((n + 1 - i : Nat) : Int)) (by show Value.int .i64 _ = _; congr 1; omega) ?_
    refine G.appendZ (l := i) (c := c) (m := n + 1 - i) (cs := cs) .here rfl trivial rfl rfl Tryz.underlying169 Tryz.underlying3 capI rfl (by decide) (by decide) rfl rfl (by omega) (by omega) (by omega) (by omega) ?_
    intro b9 c9 hc9
    generalize hZ : Ev.reps (n + 1 - i) _ = Z at hzl ⊢
    refine G.fix (d := 40) (v := .slice (some ⟨b9, 0, none⟩) (n + 1) c9) (by show Value.slice _ (i + (n + 1 - i)) _ = _; rw [show i + (n + 1 - i) = n + 1 by omega]) ?_
    refine G.assignS rfl trivial rfl rfl rfl ?_
    refine G.nil ?_
    refine C.seq ?_
    refine C.region ?_
    refine G.moveS rfl trivial rfl rfl rfl ?_
    refine G.moveI rfl trivial rfl rfl rfl ?_
    refine G.sliceL rfl trivial rfl rfl Tryz.underlying169 I173 rfl rfl (by omega) ?_
    refine G.fix (d := 43) (v := .slice (some ⟨b9, i * 8, none⟩) (n + 1 - i) (c9 - i)) (by show Value.slice (cutA (some ⟨b9, 0, none⟩) c9 (i : Int).toNat 8) (n + 1 - (i : Int).toNat) (c9 - (i : Int).toNat) = _; rw [Int.toNat_natCast, cutA_at (by omega)]) ?_
    refine G.moveS rfl trivial rfl rfl rfl ?_
    have htl : (cs.take (i * 8)).length = i * 8 := by rw [List.length_take]; omega
    refine G.copyA (vs := vs) .here rfl trivial rfl rfl Tryz.underlying169 capI rfl rfl (by decide) (by rw [hvs]; omega) (Rd.row0 (.next (.next .here))) hokv (by rw [List.length_append, htl, hzl, hvs]; omega) (cs.take (i * 8) ++ vs ++ Z.drop 8) (by rw [List.take_left' htl, hvs, List.drop_append, htl, List.drop_eq_nil_of_le (by omega), List.nil_append]; congr 2; omega) ?_
    refine G.nil ?_
    refine C.seq ?_
    refine C.drawn mixed (_) [8] (fun _ h => h) ?_
    refine GA.pure (i := 0) (fun _ _ _ _ _ h => h) rfl (by kernel_rfl) trivial rfl rfl (Y.moveS rfl rfl) (#[true, false, false, false, false, false, false, false, false]) (by kernel_rfl) ?_
    refine GA.pure (i := 1) (fun _ _ _ _ _ h => h) rfl (by kernel_rfl) trivial rfl rfl (Y.moveI rfl rfl) (#[true, true, false, false, false, false, false, false, false]) (by kernel_rfl) ?_
    refine GA.pure (i := 2) (fun _ _ _ _ _ h => h) rfl (by kernel_rfl) trivial rfl rfl (Y.moveI rfl rfl) (#[true, true, true, false, false, false, false, false, false]) (by kernel_rfl) ?_
    refine GA.pure (i := 3) (fun _ _ _ _ _ h => h) rfl (by kernel_rfl) trivial rfl rfl (Y.add rfl rfl rfl (by omega)) (#[true, true, true, true, false, false, false, false, false]) (by kernel_rfl) ?_
    refine GA.pure (i := 4) (fun _ _ _ _ _ h => h) rfl (by kernel_rfl) trivial rfl rfl (Y.sliceL rfl Tryz.underlying169 I173 rfl rfl (by omega)) (#[true, true, true, true, true, false, false, false, false]) (by kernel_rfl) ?_
    refine GA.fix (d := 50) (v := .slice (some ⟨b9, (i + 1) * 8, none⟩) (n - i) (c9 - (i + 1))) (by show Value.slice (cutA (some ⟨b9, 0, none⟩) c9 ((i : Int) + ((1 : Nat) : Int)).toNat 8) (n + 1 - ((i : Int) + ((1 : Nat) : Int)).toNat) (c9 - ((i : Int) + ((1 : Nat) : Int)).toNat) = _; rw [show ((i : Int) + ((1 : Nat) : Int)).toNat = i + 1 by omega, cutA_at (by omega), show n + 1 - (i + 1) = n - i by omega]) ?_
    refine GA.pure (i := 5) (fun _ _ _ _ _ h => h) rfl (by kernel_rfl) trivial rfl rfl (Y.moveS rfl rfl) (#[true, true, true, true, true, true, false, false, false]) (by kernel_rfl) ?_
    refine GA.pure (i := 6) (fun _ _ _ _ _ h => h) rfl (by kernel_rfl) trivial rfl rfl (Y.moveI rfl rfl) (#[true, true, true, true, true, true, true, false, false]) (by kernel_rfl) ?_
    refine GA.pure (i := 7) (fun _ _ _ _ _ h => h) rfl (by kernel_rfl) trivial rfl rfl (Y.sliceL rfl Tryz.underlying169 I173 rfl rfl (by omega)) (#[true, true, true, true, true, true, true, true, false]) (by kernel_rfl) ?_
    refine GA.fix (d := 53) (v := .slice (some ⟨b, i * 8, none⟩) (n - i) (c - i)) (by show Value.slice (cutA (some ⟨b, 0, none⟩) c (i : Int).toNat 8) (n - (i : Int).toNat) (c - (i : Int).toNat) = _; rw [Int.toNat_natCast, cutA_at (by omega)]) ?_
    refine GA.one (i := 8) rfl (by kernel_rfl) (#[true, true, true, true, true, true, true, true, true]) (by kernel_rfl) ?_
    refine G.copyA (vs := cs.drop (i * 8)) .here rfl trivial rfl rfl Tryz.underlying169 capI rfl rfl (by decide) (by rw [List.length_drop, hcs]; omega) (Rd.row (.next .here) (fun j hj => by rw [List.getElem?_drop])) (fun x hx => hok x (List.mem_of_mem_drop hx)) (by simp only [List.length_append, List.length_drop, htl, hzl, hvs, hcs]; omega) (insC i cs vs) (ins_new hcs hvs hi hzl) ?_
    refine G.nil ?_
    refine ⟨fun _ h => absurd h (by simp [hit]), ?_⟩
    refine GA.done (by kernel_rfl) ?_
    refine C.seq ?_
    refine C.region ?_
    refine G.moveS rfl trivial rfl rfl rfl ?_
    refine G.assignS rfl trivial rfl rfl rfl ?_
    refine G.less (fun _ h => h.skip1) ?_
    refine G.nil ?_
    refine C.ret ?_
    -- end c2T
    exact ⟨rfl, _, Res.of (rs := [.tmp 6]) rfl rfl, b9, c9, by omega, rfl, rfl⟩
  · intro hc2
    refine C.skip ?_
    refine C.seq ?_
    refine C.region ?_
    refine G.moveS rfl trivial rfl rfl rfl ?_
    refine G.moveI rfl trivial rfl rfl rfl ?_
    refine G.moveI rfl trivial rfl rfl rfl ?_
    refine G.add rfl trivial rfl rfl rfl rfl (by omega) ?_
    refine G.sliceH rfl trivial rfl rfl Tryz.underlying169 I173 rfl rfl (by omega) ?_
    refine G.fix (d := 60) (v := .slice (some ⟨b, 0, none⟩) (n + 1) c) (by show Value.slice _ ((n : Int) + ((1 : Nat) : Int)).toNat c = _; rw [show ((n : Int) + ((1 : Nat) : Int)).toNat = n + 1 by omega]) ?_
    refine G.assignS rfl trivial rfl rfl rfl ?_
    refine G.nil ?_
    refine C.seq ?_
    refine C.seq ?_
    refine C.region ?_
    refine G.moveS rfl trivial rfl rfl rfl ?_
    refine G.moveS rfl trivial rfl rfl rfl ?_
    refine G.moveI rfl trivial rfl rfl rfl ?_
    refine G.moveI rfl trivial rfl rfl rfl ?_
    refine G.add rfl trivial rfl rfl rfl rfl (by omega) ?_
    refine G.sliceL rfl trivial rfl rfl Tryz.underlying169 I173 rfl rfl (by omega) ?_
    refine G.fix (d := 66) (v := .slice (some ⟨b, (i + 1) * 8, none⟩) (n - i) (c - (i + 1))) (by show Value.slice (cutA (some ⟨b, 0, none⟩) c ((i : Int) + ((1 : Nat) : Int)).toNat 8) (n + 1 - ((i : Int) + ((1 : Nat) : Int)).toNat) (c - ((i : Int) + ((1 : Nat) : Int)).toNat) = _; rw [show ((i : Int) + ((1 : Nat) : Int)).toNat = i + 1 by omega, cutA_at (by omega), show n + 1 - (i + 1) = n - i by omega]) ?_
    refine G.callX (v := .bool false) rfl rfl trivial rfl rfl rfl (fun w hm => apart394 hm (.next .here) .here hne (by omega) hkv) ?_
    first | refine G.notD rfl trivial rfl rfl rfl ?_ | refine G.not rfl trivial rfl rfl rfl ?_
    refine G.reveal (m := 8) (by omega) ?_
    intro ex hex
    have htl : (cs.take ((i + 1) * 8)).length = (i + 1) * 8 := by rw [List.length_take]; omega
    have htl0 : (cs.take (i * 8)).length = i * 8 := by rw [List.length_take]; omega
    refine G.nil ?_
    refine C.condT rfl ?_
    refine C.seq ?_
    refine C.drawn mixed (_) [8] (fun _ h => h) ?_
    refine GA.pure (i := 0) (fun _ _ _ _ _ h => h) rfl (by kernel_rfl) trivial rfl rfl (Y.moveS rfl rfl) (#[true, false, false, false, false, false, false, false, false]) (by kernel_rfl) ?_
    refine GA.pure (i := 1) (fun _ _ _ _ _ h => h) rfl (by kernel_rfl) trivial rfl rfl (Y.moveI rfl rfl) (#[true, true, false, false, false, false, false, false, false]) (by kernel_rfl) ?_
    refine GA.pure (i := 2) (fun _ _ _ _ _ h => h) rfl (by kernel_rfl) trivial rfl rfl (Y.moveI rfl rfl) (#[true, true, true, false, false, false, false, false, false]) (by kernel_rfl) ?_
    refine GA.pure (i := 3) (fun _ _ _ _ _ h => h) rfl (by kernel_rfl) trivial rfl rfl (Y.add rfl rfl rfl (by omega)) (#[true, true, true, true, false, false, false, false, false]) (by kernel_rfl) ?_
    refine GA.pure (i := 4) (fun _ _ _ _ _ h => h) rfl (by kernel_rfl) trivial rfl rfl (Y.sliceL rfl Tryz.underlying169 I173 rfl rfl (by omega)) (#[true, true, true, true, true, false, false, false, false]) (by kernel_rfl) ?_
    refine GA.fix (d := 73) (v := .slice (some ⟨b, (i + 1) * 8, none⟩) (n - i) (c - (i + 1))) (by show Value.slice (cutA (some ⟨b, 0, none⟩) c ((i : Int) + ((1 : Nat) : Int)).toNat 8) (n + 1 - ((i : Int) + ((1 : Nat) : Int)).toNat) (c - ((i : Int) + ((1 : Nat) : Int)).toNat) = _; rw [show ((i : Int) + ((1 : Nat) : Int)).toNat = i + 1 by omega, cutA_at (by omega), show n + 1 - (i + 1) = n - i by omega]) ?_
    refine GA.pure (i := 5) (fun _ _ _ _ _ h => h) rfl (by kernel_rfl) trivial rfl rfl (Y.moveS rfl rfl) (#[true, true, true, true, true, true, false, false, false]) (by kernel_rfl) ?_
    refine GA.pure (i := 6) (fun _ _ _ _ _ h => h) rfl (by kernel_rfl) trivial rfl rfl (Y.moveI rfl rfl) (#[true, true, true, true, true, true, true, false, false]) (by kernel_rfl) ?_
    refine GA.pure (i := 7) (fun _ _ _ _ _ h => h) rfl (by kernel_rfl) trivial rfl rfl (Y.sliceL rfl Tryz.underlying169 I173 rfl rfl (by omega)) (#[true, true, true, true, true, true, true, true, false]) (by kernel_rfl) ?_
    refine GA.fix (d := 76) (v := .slice (some ⟨b, i * 8, none⟩) (n + 1 - i) (c - i)) (by show Value.slice (cutA (some ⟨b, 0, none⟩) c (i : Int).toNat 8) (n + 1 - (i : Int).toNat) (c - (i : Int).toNat) = _; rw [Int.toNat_natCast, cutA_at (by omega)]) ?_
    refine GA.one (i := 8) rfl (by kernel_rfl) (#[true, true, true, true, true, true, true, true, true]) (by kernel_rfl) ?_
    refine G.copyA (vs := cs.drop (i * 8)) .here rfl trivial rfl rfl Tryz.underlying169 capI rfl rfl (by decide) (by rw [List.length_drop, hcs]; omega) (Rd.row .here (fun j hj => by rw [List.length_drop] at hj; rw [List.getElem?_drop, List.getElem?_append_left (by omega)])) (fun x hx => hok x (List.mem_of_mem_drop hx)) (by simp only [List.length_append, List.length_drop, hcs, hex]; omega) (cs.take ((i + 1) * 8) ++ cs.drop (i * 8)) (ins_old hcs hi hex) ?_
    refine G.nil ?_
    refine ⟨fun _ h => absurd h (by simp [hit]), ?_⟩
    refine GA.done (by kernel_rfl) ?_
    refine C.seq ?_
    refine C.region ?_
    refine G.moveS rfl trivial rfl rfl rfl ?_
    refine G.moveI rfl trivial rfl rfl rfl ?_
    refine G.sliceL rfl trivial rfl rfl Tryz.underlying169 I173 rfl rfl (by omega) ?_
    refine G.fix (d := 80) (v := .slice (some ⟨b, i * 8, none⟩) (n + 1 - i) (c - i)) (by show Value.slice (cutA (some ⟨b, 0, none⟩) c (i : Int).toNat 8) (n + 1 - (i : Int).toNat) (c - (i : Int).toNat) = _; rw [Int.toNat_natCast, cutA_at (by omega)]) ?_
    refine G.moveS rfl trivial rfl rfl rfl ?_
    refine G.copyA (vs := vs) .here rfl trivial rfl rfl Tryz.underlying169 capI rfl rfl (by decide) (by rw [hvs]; omega) (Rd.row0 (.next .here)) hokv (by simp only [List.length_append, List.length_drop, htl, hcs, hvs]; omega) (insC i cs vs) (ins_old2 hcs hvs hi) ?_
    refine G.nil ?_
    refine C.seq ?_
    refine C.region ?_
    refine G.moveS rfl trivial rfl rfl rfl ?_
    refine G.assignS rfl trivial rfl rfl rfl ?_
    refine G.nil ?_
    refine C.ret ?_
    -- end c2F
    exact ⟨rfl, _, Res.of (rs := [.tmp 6]) rfl rfl, b, c, by omega, by rw [hck], rfl⟩
end Go.Proofs.YtokggoikffcijaaGreatDoor
