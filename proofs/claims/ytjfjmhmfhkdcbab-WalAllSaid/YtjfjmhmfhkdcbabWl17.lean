/-
  WalAll: small lemmas; the document's log (a book), told; walked.
-/
import Derived.Test.YtjfjmhmfhkdcbabWl11
namespace Go.Proofs.Ytjfjmhmfhkdcbab
open Go Go.SL Go.RowKit

theorem ls_at {ls : LsB} {fs : List (List UInt8)} (h : ls.map (·.2.2) = fs) {i : Nat} {b : List UInt8} (hb : fs[i]? = some b) : ∃ a c, ls[i]? = some (a, c, b) := by
  rw [← h, List.getElem?_map] at hb
  cases hx : ls[i]? with
  | none => rw [hx] at hb; cases hb
  | some x =>
    rw [hx] at hb
    simp at hb
    obtain ⟨a, c, y⟩ := x
    simp at hb
    subst hb
    exact ⟨a, c, rfl⟩
theorem cell_off {W0 : World} {L : List Seg} {p q : Nat} {vs : List Value} (h : Rd W0 L (some ⟨p, q, none⟩) vs) {j : Nat} {v : Value} (hj : vs[j]? = some v) {off : Nat} (hk : off = q + j) : ∀ w, Mem W0 w L → w.cell? ⟨p, off, none⟩ = some v := fun w hm => by
  have hlt : j < vs.length := by
    rcases Nat.lt_or_ge j vs.length with h | h
    · exact h
    · rw [List.getElem?_eq_none h] at hj; cases hj
  rw [hk, Rd.cell_at h hlt w hm, hj]
theorem Mem.keepN {W0 w : World} (A : List Seg) {C : List Seg} (h : Mem W0 w (A ++ C)) : Mem W0 w A := h.fewer (by
  rw [List.flatten_append]
  exact List.sublist_append_left _ _)
def strV (b : List UInt8) : Value := .string (strB b)
/-! ### The book -/
def recsV : Nat → List (List UInt8) → List Value
  | _, [] => []
  | a, b :: rs => strV b :: .int .i64 ((a + b.length + 4 : Nat) : Int) :: recsV (a + b.length + 4) rs
theorem recsV_length : ∀ (rs : List (List UInt8)) (a : Nat), (recsV a rs).length = rs.length * 2
  | [], _ => rfl
  | b :: rs, a => by simp [recsV, recsV_length rs]; omega
theorem recsV_append : ∀ (xs ys : List (List UInt8)) (a : Nat), recsV a (xs ++ ys) = recsV a xs ++ recsV (a + size xs) ys
  | [], _, _ => rfl
  | b :: xs, ys, a => by
    simp only [List.cons_append, recsV, recsV_append xs ys, size_cons]
    congr 4
    omega
theorem recsV_str : ∀ (rs : List (List UInt8)) (a i : Nat) (b : List UInt8), rs[i]? = some b → (recsV a rs)[2 * i]? = some (strV b)
  | [], _, _, _, h => by simp at h
  | c :: rs, a, 0, b, h => by simp at h; subst h; rfl
  | c :: rs, a, i + 1, b, h => by
    rw [show 2 * (i + 1) = 2 * i + 1 + 1 by omega]
    simp only [recsV, List.getElem?_cons_succ]
    exact recsV_str rs _ i b (by simpa using h)
theorem recsV_end : ∀ (rs : List (List UInt8)) (a i : Nat), i < rs.length → (recsV a rs)[2 * i + 1]? = some (.int .i64 ((a + size (rs.take (i + 1)) : Nat) : Int))
  | [], _, _, h => absurd h (Nat.not_lt_zero _)
  | c :: rs, a, 0, _ => by simp [recsV, size_cons, size_nil]; omega
  | c :: rs, a, i + 1, h => by
    rw [show 2 * (i + 1) + 1 = 2 * i + 1 + 1 + 1 by omega]
    simp only [recsV, List.getElem?_cons_succ, List.take_succ_cons, size_cons]
    rw [recsV_end rs _ i (by simpa using h)]
    congr 2
    omega
theorem recsV_ok : ∀ (rs : List (List UInt8)) (a : Nat), ∀ v ∈ recsV a rs, cellsOk v = true
  | [], _, v, h => by simp [recsV] at h
  | c :: rs, a, v, h => by
    simp only [recsV, List.mem_cons] at h
    rcases h with rfl | rfl | h
    · rfl
    · rfl
    · exact recsV_ok rs _ v h
theorem recsV_take (rs : List (List UInt8)) (a n : Nat) : (recsV a rs).take (2 * n) = recsV a (rs.take n) := by
  rcases Nat.lt_or_ge n rs.length with h | h
  · have h1 := recsV_append (rs.take n) (rs.drop n) a
    rw [List.take_append_drop] at h1
    have h2 : (recsV a (rs.take n)).length = 2 * n := by rw [recsV_length, List.length_take, Nat.min_eq_left (by omega)]; omega
    rw [h1, List.take_append_of_le_length (by omega), List.take_of_length_le (by omega)]
  · rw [List.take_of_length_le h, List.take_of_length_le (by rw [recsV_length]; omega)]
/-- the book in memory: what is kept behind the base, and how far it is forced -/
def BkIs (bK base : Nat) (R : List (List UInt8)) (forced : Nat) (sg : Seg) : Prop :=
  ∃ v ws, OwnS v R.length (recsV base R) 47 2 ws ∧ sg = (bK, .row [v, .int .i64 (base : Int), .int .i64 (forced : Int)] 33 3) :: ws
section
variable (W0 : World) (S L0 : List Seg) (bK base forced : Nat) (R : List (List UInt8))
theorem kend_spec (sg : Seg) (h : BkIs bK base R forced sg) (hR : R.length ≤ 1000000) (hb : base + size R < 1099511627776) :
    FnS Try.prog W0 9 #[ptr bK] (S ++ (sg :: L0)) (fun r L' => L' = S ++ (sg :: L0) ∧ r = .returned (.int .i64 ((base + size R : Nat) : Int))) := by
  obtain ⟨v, ws, hv, rfl⟩ := h
  obtain ⟨a0, c0, rfl, hr0⟩ := hv.form
  have hrd : ∀ a1 : Option Addr, a1 = a0 → Rd W0 (S ++ (((bK, .row [.slice a0 R.length c0, .int .i64 (base : Int), .int .i64 (forced : Int)] 33 3) :: ws) :: L0)) a1 (recsV base R) := fun a1 h1 => by
    subst h1
    exact (hr0 W0 []).mono fun _ h => h.fewer (by
      simp only [List.flatten_cons, List.flatten_nil, List.append_nil, List.cons_append, List.flatten_append]
      exact (List.sublist_append_left ws _).trans ((List.sublist_cons_self _ _).trans (List.sublist_append_right _ _)))
  refine FnS.of (args := [ptr bK]) Try.func9 rfl rfl ?_
  refine C.seq ?_
  refine C.region ?_
  refine G.assignI rfl trivial rfl rfl rfl ?_
  refine G.nil ?_
  refine C.seq ?_
  refine C.seq ?_
  refine C.region ?_
  refine G.moveP rfl trivial rfl rfl rfl ?_
  first | refine G.nilCheckP rfl trivial rfl rfl rfl ?_ | refine G.nilCheckF rfl trivial rfl rfl rfl ?_
  refine G.fieldAddr rfl trivial rfl rfl Try.underlying33 rfl I31 rfl rfl ?_
  refine G.loadAt (v := .slice a0 R.length c0) (.app .here) rfl trivial rfl rfl Try.underlying31 rfl rfl rfl ?_
  refine G.lenSlice rfl trivial rfl rfl Try.underlying31 rfl ?_
  refine G.bin rfl trivial rfl rfl rfl rfl rfl ?_
  refine G.nil ?_
  refine C.cond _ rfl ?_ ?_
  · intro hc0
    obtain rfl : R = [] := List.eq_nil_of_length_eq_zero (by omega)
    refine C.seq ?_
    refine C.region ?_
    refine G.moveP rfl trivial rfl rfl rfl ?_
    first | refine G.nilCheckP rfl trivial rfl rfl rfl ?_ | refine G.nilCheckF rfl trivial rfl rfl rfl ?_
    refine G.fieldAddr rfl trivial rfl rfl Try.underlying33 rfl I2 rfl rfl ?_
    refine G.loadAt (v := .int .i64 (base : Int)) (.app .here) rfl trivial rfl rfl Try.underlying2 rfl rfl rfl ?_
    refine G.assignI rfl trivial rfl rfl rfl ?_
    refine G.nil ?_
    refine C.ret ?_
    -- end c0T
    exact ⟨rfl, _, Res.of (rs := [.tmp 2]) rfl rfl, rfl, rfl⟩
  · intro hc0
    obtain ⟨k, hk⟩ : ∃ k, R.length = k + 1 := ⟨R.length - 1, by omega⟩
    obtain ⟨p0, q0, hp0, _⟩ := (hrd a0 rfl).some_ (by rw [recsV_length]; omega)
    have hce := recsV_end R base k (by omega)
    rw [List.take_of_length_le (by omega)] at hce
    have hcell := cell_off (hrd _ hp0.symm) hce (off := q0 + k * 2 + 1) (by omega)
    refine C.skip ?_
    refine C.seq ?_
    refine C.drawn mixed (_) [] (fun _ h => h) ?_
    refine GA.pure (i := 0) (fun _ _ _ _ _ h => h) rfl (by kernel_rfl) trivial rfl rfl (Y.moveP rfl rfl) (#[true, false, false, false, false, false, false, false, false, false, false, false, false, false]) (by kernel_rfl) ?_
    first | refine GA.pure (i := 1) (fun _ _ _ _ _ h => h) rfl (by kernel_rfl) trivial rfl rfl (Y.nilCheckP rfl rfl) (#[true, true, false, false, false, false, false, false, false, false, false, false, false, false]) (by kernel_rfl) ?_ | refine GA.pure (i := 1) (fun _ _ _ _ _ h => h) rfl (by kernel_rfl) trivial rfl rfl (Y.nilCheckF rfl rfl) (#[true, true, false, false, false, false, false, false, false, false, false, false, false, false]) (by kernel_rfl) ?_
    refine GA.pure (i := 2) (fun _ _ _ _ _ h => h) rfl (by kernel_rfl) trivial rfl rfl (Y.fieldAddr rfl Try.underlying33 rfl I31 rfl rfl) (#[true, true, true, false, false, false, false, false, false, false, false, false, false, false]) (by kernel_rfl) ?_
    refine GA.read (i := 3) (fun _ _ _ _ _ h => h) rfl (by kernel_rfl) (by kernel_rfl) trivial rfl rfl (Y.loadAt (v := .slice a0 R.length c0) (.app .here) rfl Try.underlying31 rfl rfl rfl) (#[true, true, true, true, false, false, false, false, false, false, false, false, false, false]) (by kernel_rfl) ?_
    refine GA.fix (d := 16) (v := .slice (some ⟨p0, q0, none⟩) R.length c0) (by rw [← hp0]; rfl) ?_
    refine GA.pure (i := 4) (fun _ _ _ _ _ h => h) rfl (by kernel_rfl) trivial rfl rfl (Y.moveP rfl rfl) (#[true, true, true, true, true, false, false, false, false, false, false, false, false, false]) (by kernel_rfl) ?_
    first | refine GA.pure (i := 5) (fun _ _ _ _ _ h => h) rfl (by kernel_rfl) trivial rfl rfl (Y.nilCheckP rfl rfl) (#[true, true, true, true, true, true, false, false, false, false, false, false, false, false]) (by kernel_rfl) ?_ | refine GA.pure (i := 5) (fun _ _ _ _ _ h => h) rfl (by kernel_rfl) trivial rfl rfl (Y.nilCheckF rfl rfl) (#[true, true, true, true, true, true, false, false, false, false, false, false, false, false]) (by kernel_rfl) ?_
    refine GA.pure (i := 6) (fun _ _ _ _ _ h => h) rfl (by kernel_rfl) trivial rfl rfl (Y.fieldAddr rfl Try.underlying33 rfl I31 rfl rfl) (#[true, true, true, true, true, true, true, false, false, false, false, false, false, false]) (by kernel_rfl) ?_
    refine GA.read (i := 7) (fun _ _ _ _ _ h => h) rfl (by kernel_rfl) (by kernel_rfl) trivial rfl rfl (Y.loadAt (v := .slice a0 R.length c0) (.app .here) rfl Try.underlying31 rfl rfl rfl) (#[true, true, true, true, true, true, true, true, false, false, false, false, false, false]) (by kernel_rfl) ?_
    refine GA.pure (i := 8) (fun _ _ _ _ _ h => h) rfl (by kernel_rfl) trivial rfl rfl (Y.lenSlice rfl Try.underlying31 rfl) (#[true, true, true, true, true, true, true, true, true, false, false, false, false, false]) (by kernel_rfl) ?_
    refine GA.pure (i := 9) (fun _ _ _ _ _ h => h) rfl (by kernel_rfl) trivial rfl rfl (Y.sub rfl rfl rfl (by omega)) (#[true, true, true, true, true, true, true, true, true, true, false, false, false, false]) (by kernel_rfl) ?_
    refine GA.fix (d := 22) (v := .int .i64 (k : Int)) (by show Value.int .i64 _ = _; congr 1; omega) ?_
    refine GA.pure (i := 10) (fun _ _ _ _ _ h => h) rfl (by kernel_rfl) trivial rfl rfl (Y.indexAddr rfl Try.underlying31 I47 rfl rfl (by omega)) (#[true, true, true, true, true, true, true, true, true, true, true, false, false, false]) (by kernel_rfl) ?_
    refine GA.pure (i := 11) (fun _ _ _ _ _ h => h) rfl (by kernel_rfl) trivial rfl rfl (Y.fieldAddr rfl Try.underlying47 rfl I2 rfl rfl) (#[true, true, true, true, true, true, true, true, true, true, true, true, false, false]) (by kernel_rfl) ?_
    refine GA.fix (d := 24) (v := .pointer (some ⟨p0, q0 + k * 2 + 1, none⟩)) (by show Value.pointer (some ⟨p0, q0 + (k : Int).toNat * 2 + 1, none⟩) = _; rw [show (k : Int).toNat = k by omega]) ?_
    refine GA.read (i := 12) (fun _ _ _ _ _ h => h) rfl (by kernel_rfl) (by kernel_rfl) trivial rfl rfl (Y.load rfl Try.underlying2 rfl rfl hcell) (#[true, true, true, true, true, true, true, true, true, true, true, true, true, false]) (by kernel_rfl) ?_
    refine GA.pure (i := 13) (fun _ _ _ _ _ h => h) rfl (by kernel_rfl) trivial rfl rfl (Y.assignI rfl rfl) (#[true, true, true, true, true, true, true, true, true, true, true, true, true, true]) (by kernel_rfl) ?_
    refine GA.done (by kernel_rfl) ?_
    refine C.ret ?_
    -- end c0F
    exact ⟨rfl, _, Res.of (rs := [.tmp 2]) rfl rfl, rfl, rfl⟩
theorem lasts_spec (L : List Seg) (v : Value) (ls : LsB) (p5 a0 : Option Addr) (q5 c0 : Nat) (n : Nat) (hls : ls.map (·.2.2) = R.take n) (hR : R.length ≤ 1000000) (h5 : Rd W0 L p5 (ls.map hdrB)) (h6 : ∀ x ∈ ls, Rd W0 L x.1 (bytesV x.2.2)) (hrd : Rd W0 L a0 (recsV base R)) :
    FnS Try.prog W0 24 #[v, .slice p5 ls.length q5, .slice a0 R.length c0] L (fun r L' => L' = L ∧ r = .returned (.bool true)) := by
  have hl := ls_length hls
  rw [List.length_take] at hl
  refine FnS.of (args := [v, .slice p5 ls.length q5, .slice a0 R.length c0]) Try.func24 rfl rfl ?_
  refine C.seq ?_
  refine C.region ?_
  refine G.assignB rfl trivial rfl rfl rfl ?_
  refine G.nil ?_
  refine C.seq ?_
  refine C.seq ?_
  refine C.region ?_
  refine G.moveS rfl trivial rfl rfl rfl ?_
  refine G.lenSlice rfl trivial rfl rfl Try.underlying51 rfl ?_
  refine G.moveS rfl trivial rfl rfl rfl ?_
  refine G.lenSlice rfl trivial rfl rfl Try.underlying31 rfl ?_
  refine G.bin rfl trivial rfl rfl rfl rfl rfl ?_
  refine G.nil ?_
  refine C.no rfl (by omega) ?_
  refine C.skip ?_
  refine C.seq ?_
  refine C.seq ?_
  refine C.region ?_
  refine G.assignI rfl trivial rfl rfl rfl ?_
  refine G.nil ?_
  refine C.block ?_
  refine C.loop (fun m F D' L' => ∃ j : Nat, j ≤ ls.length ∧ m = ls.length - j ∧ F 7 = .int .i64 (j : Int) ∧ F 1 = .slice p5 ls.length q5 ∧ F 2 = .slice a0 R.length c0 ∧ D' = [] ∧ L = L') ⟨_, ⟨0, by omega, rfl, rfl, rfl, rfl, rfl, rfl⟩⟩ ?_
  rintro m F D' L' ⟨j, hj, rfl, h7, h1', h2', rfl, rfl⟩
  refine C.fix (d := 7) h7 ?_
  refine C.fix (d := 1) h1' ?_
  refine C.fix (d := 2) h2' ?_
  refine C.seq ?_
  refine C.seq ?_
  refine C.region ?_
  refine G.moveI rfl trivial rfl rfl rfl ?_
  refine G.moveS rfl trivial rfl rfl rfl ?_
  refine G.lenSlice rfl trivial rfl rfl Try.underlying51 rfl ?_
  refine G.bin rfl trivial rfl rfl rfl rfl rfl ?_
  refine G.nil ?_
  refine C.cond _ rfl ?_ ?_
  · intro hc1
    have hlt : j < ls.length := by omega
    obtain ⟨b, hb⟩ : ∃ b, R[j]? = some b := ⟨_, List.getElem?_eq_getElem (by omega)⟩
    have hb2 : (R.take n)[j]? = some b := by rw [List.getElem?_take, if_pos (by omega)]; exact hb
    obtain ⟨a6, c6, hx6⟩ := ls_at hls hb2
    have hr6 := h6 _ (List.mem_of_getElem? hx6)
    simp only at hr6
    obtain ⟨x5, y5, hp5, _⟩ := h5.some_ (by simp; omega)
    obtain ⟨x0, y0, hp0, _⟩ := hrd.some_ (by rw [recsV_length]; omega)
    have hstr := cell_off (hp0 ▸ hrd) (recsV_str R base j b hb) (off := y0 + j * 2 + 0) (by omega)
    have hrow := row_cell (hp5 ▸ h5) (i := j) hx6 (k := (j : Int)) rfl
    refine C.fix (d := 1) (v := .slice (some ⟨x5, y5, none⟩) ls.length q5) (by rw [← hp5]; rfl) ?_
    refine C.fix (d := 2) (v := .slice (some ⟨x0, y0, none⟩) R.length c0) (by rw [← hp0]; rfl) ?_
    refine C.skip ?_
    refine C.seq ?_
    refine C.block ?_
    refine C.seq ?_
    refine C.drawn mixed (_) [] (fun _ h => h) ?_
    refine GA.pure (i := 0) (fun _ _ _ _ _ h => h) rfl (by kernel_rfl) trivial rfl rfl (Y.moveS rfl rfl) (#[true, false, false, false, false, false, false, false, false, false, false]) (by kernel_rfl) ?_
    refine GA.pure (i := 1) (fun _ _ _ _ _ h => h) rfl (by kernel_rfl) trivial rfl rfl (Y.moveI rfl rfl) (#[true, true, false, false, false, false, false, false, false, false, false]) (by kernel_rfl) ?_
    refine GA.pure (i := 2) (fun _ _ _ _ _ h => h) rfl (by kernel_rfl) trivial rfl rfl (Y.indexAddr rfl Try.underlying51 I34 rfl rfl (by omega)) (#[true, true, true, false, false, false, false, false, false, false, false]) (by kernel_rfl) ?_
    refine GA.read (i := 3) (fun _ _ _ _ _ h => h) rfl (by kernel_rfl) (by kernel_rfl) trivial rfl rfl (Y.load rfl Try.underlying34 rfl rfl hrow) (#[true, true, true, true, false, false, false, false, false, false, false]) (by kernel_rfl) ?_
    refine GA.read (i := 4) (fun _ _ _ _ _ h => h) rfl (by kernel_rfl) (by kernel_rfl) trivial rfl rfl (Y.bytesStr b rfl Try.underlying34 Try.underlying5 Try.underlying9 rfl rfl hr6) (#[true, true, true, true, true, false, false, false, false, false, false]) (by kernel_rfl) ?_
    refine GA.pure (i := 5) (fun _ _ _ _ _ h => h) rfl (by kernel_rfl) trivial rfl rfl (Y.moveS rfl rfl) (#[true, true, true, true, true, true, false, false, false, false, false]) (by kernel_rfl) ?_
    refine GA.pure (i := 6) (fun _ _ _ _ _ h => h) rfl (by kernel_rfl) trivial rfl rfl (Y.moveI rfl rfl) (#[true, true, true, true, true, true, true, false, false, false, false]) (by kernel_rfl) ?_
    refine GA.pure (i := 7) (fun _ _ _ _ _ h => h) rfl (by kernel_rfl) trivial rfl rfl (Y.indexAddr rfl Try.underlying31 I47 rfl rfl (by omega)) (#[true, true, true, true, true, true, true, true, false, false, false]) (by kernel_rfl) ?_
    refine GA.pure (i := 8) (fun _ _ _ _ _ h => h) rfl (by kernel_rfl) trivial rfl rfl (Y.fieldAddr rfl Try.underlying47 rfl I9 rfl rfl) (#[true, true, true, true, true, true, true, true, true, false, false]) (by kernel_rfl) ?_
    refine GA.fix (d := 27) (v := .pointer (some ⟨x0, y0 + j * 2 + 0, none⟩)) (by show Value.pointer (some ⟨x0, y0 + (j : Int).toNat * 2 + 0, none⟩) = _; rw [show (j : Int).toNat = j by omega]) ?_
    refine GA.read (i := 9) (fun _ _ _ _ _ h => h) rfl (by kernel_rfl) (by kernel_rfl) trivial rfl rfl (Y.load rfl Try.underlying9 rfl rfl hstr) (#[true, true, true, true, true, true, true, true, true, true, false]) (by kernel_rfl) ?_
    refine GA.pure (i := 10) (fun _ _ _ _ _ h => h) rfl (by kernel_rfl) trivial rfl rfl (Y.strNe rfl  rfl rfl) (#[true, true, true, true, true, true, true, true, true, true, true]) (by kernel_rfl) ?_
    refine GA.fix (d := 29) (v := .bool false) (by show Value.bool (decide (¬ strB b = strB b)) = _; simp) ?_
    refine GA.done (by kernel_rfl) ?_
    refine C.condF rfl ?_
    refine C.skip ?_
    refine C.region ?_
    refine G.moveI rfl trivial rfl rfl rfl ?_
    refine G.add rfl trivial rfl rfl rfl rfl (by omega) ?_
    refine G.assignI rfl trivial rfl rfl rfl ?_
    refine G.nil ?_
    exact ⟨ls.length - (j + 1), by omega, j + 1, by omega, rfl, rfl, by rw [hp5]; rfl, by rw [hp0]; rfl, rfl, rfl⟩
  · intro hc1
    refine C.exit ?_
    refine C.seq ?_
    refine C.region ?_
    refine G.assignB rfl trivial rfl rfl rfl ?_
    refine G.nil ?_
    refine C.ret ?_
    -- end c1F
    exact ⟨rfl, _, Res.of (rs := [.tmp 6]) rfl rfl, rfl, rfl⟩
end
end Go.Proofs.Ytjfjmhmfhkdcbab
