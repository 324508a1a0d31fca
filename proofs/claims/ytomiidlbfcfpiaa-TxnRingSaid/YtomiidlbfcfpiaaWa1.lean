/-
  The library's Clone, DeleteFunc and Sort at a slice of one's own of whole numbers, walked.
-/
import Derived.Test.YtomiidlbfcfpiaaWa0
import Derived.Test.YtomiidlbfcfpiaaCo1
namespace Go.Proofs.Ytomiidlbfcfpiaa
open Go Go.SL Go.RowKit Go.Sort

theorem ints_ok (l : List Int) : ∀ v ∈ l.map (Value.int .i64), cellsOk v = true := fun v hv => by obtain ⟨z, _, rfl⟩ := List.mem_map.1 hv; rfl
/-- those that are not it -/
def without (t : Int) (l : List Int) : List Int := l.filter fun y => !decide (y = t)
theorem without_le (t : Int) (l : List Int) : (without t l).length ≤ l.length := List.length_filter_le _ _
theorem without_take {t : Int} {l : List Int} {j : Nat} (h : j < l.length) : without t (l.take (j + 1)) = if l[j]! = t then without t (l.take j) else without t (l.take j) ++ [l[j]!] := by
  unfold without
  rw [take_snoc h, List.filter_append]
  generalize l[j]! = x
  by_cases e : x = t <;> simp [e]
theorem without_none {t : Int} {l : List Int} (h : ∀ y ∈ l, y ≠ t) : without t l = l := by
  unfold without
  exact List.filter_eq_self.2 fun y hy => by simp [h y hy]
section lib
variable (W0 : World)
theorem clone_spec (L : List Seg) (a : Option Addr) (c : Nat) (xs : List Int) (hr : Rd W0 L a (xs.map (Value.int .i64))) (hl : xs.length ≤ 1000000) :
    FnS Try.prog W0 36 #[.slice a xs.length c] L (fun e L' => ∃ v so, OwnS v xs.length (xs.map (Value.int .i64)) 2 1 so ∧ L' = so :: L ∧ e = .returned v) := by
  refine FnS.of (args := [.slice a xs.length c]) Try.func36 rfl rfl ?_
  refine C.seq ?_
  refine C.region ?_
  refine G.assignS rfl trivial rfl rfl rfl ?_
  refine G.nil ?_
  refine C.seq ?_
  refine C.seq ?_
  refine C.region ?_
  refine G.moveS rfl trivial rfl rfl rfl ?_
  refine G.slEq rfl trivial rfl rfl Try.underlying27 rfl rfl ?_
  refine G.nil ?_
  refine C.condB _ rfl ?_ ?_
  · intro hc0
    refine C.seq ?_
    refine C.region ?_
    refine G.assignS rfl trivial rfl rfl rfl ?_
    refine G.nil ?_
    refine C.less (fun _ h => h.empty) ?_
    refine C.ret ?_
    -- end c0T
    have hn : a = none := by cases a; rfl; cases hc0
    have h0 := hr.ne (m := xs.length) (sz := 1) (by simp) (by decide) hn
    obtain rfl := List.eq_nil_of_length_eq_zero h0
    exact ⟨rfl, _, Res.of (rs := [.tmp 2]) rfl rfl, _, [], OwnS.nil _ _, rfl, rfl⟩
  · intro hc0
    refine C.skip ?_
    refine C.seq ?_
    refine C.region ?_
    refine G.emptySlice rfl trivial rfl rfl Try.underlying27 I2 ?_
    intro b5
    refine G.moveS rfl trivial rfl rfl rfl ?_
    refine G.append (OwnS.empty b5 2 1) rfl trivial rfl rfl Try.underlying27 Try.underlying27 I2 rfl (by decide) rfl rfl (by decide) hr.cons (by simp) (ints_ok xs) (by omega) ?_
    intro v7 s7 hv7
    obtain ⟨a7, c7, rfl, _⟩ := hv7.form
    have h7 : OwnS (.slice a7 xs.length c7) xs.length (xs.map (Value.int .i64)) 2 1 s7 := by simpa using hv7
    refine G.fix (d := 7) (v := .slice a7 xs.length c7) (by show Value.slice a7 (0 + xs.length) c7 = _; rw [Nat.zero_add]) ?_
    refine G.assignS rfl trivial rfl rfl rfl ?_
    refine G.nil ?_
    refine C.ret ?_
    -- end c0F
    exact ⟨rfl, _, Res.of (rs := [.tmp 2]) rfl rfl, _, s7, h7, rfl, rfl⟩
theorem ins0_spec (L : List Seg) (a : Option Addr) (c : Nat) : FnS Try.prog W0 54 #[.slice a 0 c, .int .i64 0, .int .i64 0] L (fun e L' => L' = L ∧ e = .returned (.tuple #[])) := by
  refine FnS.of (args := [.slice a 0 c, .int .i64 0, .int .i64 0]) Try.func54 rfl rfl ?_
  refine C.seq ?_
  refine C.region ?_
  refine G.moveI rfl trivial rfl rfl rfl ?_
  refine G.add rfl trivial rfl rfl rfl rfl (by omega) ?_
  refine G.assignI rfl trivial rfl rfl rfl ?_
  refine G.nil ?_
  refine C.block ?_
  refine C.loop (fun m F D' L' => m = 1 ∧ F 2 = .int .i64 0 ∧ F 6 = .int .i64 1 ∧ D' = [] ∧ L = L') ⟨_, rfl, rfl, rfl, rfl, rfl⟩ ?_
  rintro m F D' L' ⟨rfl, h2, h6, rfl, rfl⟩
  refine C.fix (d := 2) h2 ?_
  refine C.fix (d := 6) h6 ?_
  refine C.seq ?_
  refine C.seq ?_
  refine C.region ?_
  refine G.moveI rfl trivial rfl rfl rfl ?_
  refine G.moveI rfl trivial rfl rfl rfl ?_
  refine G.bin rfl trivial rfl rfl rfl rfl rfl ?_
  refine G.nil ?_
  refine C.no rfl (by decide) ?_
  refine C.exit ?_
  -- end 
  exact ⟨rfl, _, Res.of (rs := []) rfl rfl, rfl, rfl⟩
theorem pdq0_spec (L : List Seg) (a : Option Addr) (c k : Nat) : FnS Try.prog W0 38 #[.slice a 0 c, .int .i64 0, .int .i64 0, .int .i64 (k : Int)] L (fun e L' => L' = L ∧ e = .returned (.tuple #[])) := by
  refine FnS.of (args := [.slice a 0 c, .int .i64 0, .int .i64 0, .int .i64 (k : Int)]) Try.func38 rfl rfl ?_
  refine C.seq ?_
  refine C.region ?_
  refine G.assignB rfl trivial rfl rfl rfl ?_
  refine G.nil ?_
  refine C.seq ?_
  refine C.region ?_
  refine G.assignB rfl trivial rfl rfl rfl ?_
  refine G.nil ?_
  refine C.block ?_
  refine C.loop (fun m F D' L' => m = 1 ∧ F 0 = .slice a 0 c ∧ F 1 = .int .i64 0 ∧ F 2 = .int .i64 0 ∧ D' = [] ∧ L = L') ⟨_, rfl, rfl, rfl, rfl, rfl, rfl⟩ ?_
  rintro m F D' L' ⟨rfl, h0, h1, h2, rfl, rfl⟩
  refine C.fix (d := 0) h0 ?_
  refine C.fix (d := 1) h1 ?_
  refine C.fix (d := 2) h2 ?_
  refine C.block ?_
  refine C.seq ?_
  refine C.region ?_
  refine G.moveI rfl trivial rfl rfl rfl ?_
  refine G.moveI rfl trivial rfl rfl rfl ?_
  refine G.sub rfl trivial rfl rfl rfl rfl (by omega) ?_
  refine G.assignI rfl trivial rfl rfl rfl ?_
  refine G.nil ?_
  refine C.seq ?_
  refine C.seq ?_
  refine C.region ?_
  refine G.moveI rfl trivial rfl rfl rfl ?_
  refine G.bin rfl trivial rfl rfl rfl rfl rfl ?_
  refine G.nil ?_
  refine C.yes rfl (by decide) ?_
  refine C.seq ?_
  refine C.region ?_
  refine G.moveS rfl trivial rfl rfl rfl ?_
  refine G.moveI rfl trivial rfl rfl rfl ?_
  refine G.moveI rfl trivial rfl rfl rfl ?_
  refine G.call E54 rfl rfl trivial rfl rfl (ins0_spec W0 _ a c) rfl ?_
  rintro e L2 ⟨rfl, rfl⟩
  refine G.nil ?_
  refine C.ret ?_
  -- end 
  exact ⟨rfl, _, Res.of (rs := []) rfl rfl, rfl, rfl⟩
theorem sort0_spec (L : List Seg) (a : Option Addr) (c : Nat) : FnS Try.prog W0 23 #[.slice a 0 c] L (fun e L' => L' = L ∧ e = .returned (.tuple #[])) := by
  refine FnS.of (args := [.slice a 0 c]) Try.func23 rfl rfl ?_
  refine C.seq ?_
  refine C.region ?_
  refine G.moveS rfl trivial rfl rfl rfl ?_
  refine G.lenSlice rfl trivial rfl rfl Try.underlying27 rfl ?_
  refine G.assignI rfl trivial rfl rfl rfl ?_
  refine G.nil ?_
  refine C.region ?_
  refine G.moveS rfl trivial rfl rfl rfl ?_
  refine G.moveI rfl trivial rfl rfl rfl ?_
  refine G.moveI rfl trivial rfl rfl rfl ?_
  refine G.convInt rfl trivial rfl rfl Try.underlying3 Try.underlying73 rfl ?_
  refine G.call E39 rfl rfl trivial rfl rfl (len_spec W0 _ 0 (by decide)) rfl ?_
  rintro e L2 ⟨k, hk, rfl, rfl⟩
  refine G.call E38 rfl rfl trivial rfl rfl (pdq0_spec W0 _ a c k) rfl ?_
  rintro e L2 ⟨rfl, rfl⟩
  refine G.nil ?_
  -- end 
  exact ⟨rfl, _, Res.of (rs := []) rfl rfl, rfl, rfl⟩
/-- a slice of one's own is sorted -/
theorem sortO_spec (L : List Seg) (v : Value) (l : List Int) (so : Seg) (hv : OwnS v l.length (l.map (Value.int .i64)) 2 1 so) (hl : l.length ≤ 1000000) :
    FnS Try.prog W0 23 #[v] (so :: L) (fun e L' => ∃ so', OwnS v (sortL l).length ((sortL l).map (Value.int .i64)) 2 1 so' ∧ L' = so' :: L ∧ e = .returned (.tuple #[])) := by
  rcases Nat.eq_zero_or_pos l.length with h0 | h0
  · obtain rfl := List.eq_nil_of_length_eq_zero h0
    obtain ⟨a, c, rfl, _⟩ := hv.form
    exact (sort0_spec W0 (so :: L) a c).mono fun e L' ⟨h1, h2⟩ => ⟨so, by simpa [sortL] using hv, h1, h2⟩
  · obtain ⟨b, c, k, rfl, rfl, h1, h2⟩ := hv.block h0
    have h3 := sort_spec W0 (At.here (b := b) (o := .row (ic l.toArray []) 2 k) (s := []) (L := L)) 2 k l.length c [] (by omega) l.toArray (by simp)
    refine FnS.perm (L' := [(b, .row (ic l.toArray []) 2 k)] :: L) ?_ (by simp [ic])
    refine h3.mono fun e L' ⟨e1, e2⟩ => ⟨[(b, .row ((sortL l).map (Value.int .i64)) 2 k)], ?_, ?_, e2⟩
    · rw [sortL_length]
      exact OwnS.mk (by simp [sortL_length]) h1 h2
    · rw [e1]; simp [ic]
/-- what the closure that strikes out tells -/
def Strikes (W0 : World) (fc : FuncId) : Prop := ∀ (L : List Seg) (bt : Nat) (t y : Int) (u : Nat → SObj → List Seg), At L bt (.row [.int .i64 t] 2 1) u →
  FnS Try.prog W0 fc #[.int .i64 y, .pointer (some ⟨bt, 0, none⟩)] L (fun e L' => L' = L ∧ e = .returned (.bool (decide (y = t))))
variable (fc : FuncId) (hent : Enters Try.prog fc) (hfc : Strikes W0 fc)
include hent hfc
theorem indexI_spec (L : List Seg) (v : Value) (ls : List Int) (s1 : Seg) (hv : OwnS v ls.length (ls.map (Value.int .i64)) 2 1 s1) (hl : ls.length ≤ 1000000) (bt : Nat) (t : Int) :
    FnS Try.prog W0 48 #[v, .func (.func fc) #[] #[.pointer (some ⟨bt, 0, none⟩)]] (s1 :: [(bt, .row [.int .i64 t] 2 1)] :: L)
      (fun e L' => L' = s1 :: [(bt, .row [.int .i64 t] 2 1)] :: L ∧ ∃ r : Int, e = .returned (.int .i64 r) ∧ ((r = -1 ∧ ∀ y ∈ ls, y ≠ t) ∨ ∃ (i : Nat) (h : i < ls.length), r = (i : Int) ∧ ls[i]! = t ∧ ∀ y ∈ ls.take i, y ≠ t)) := by
  obtain ⟨a, c, rfl, _⟩ := hv.form
  refine FnS.of (args := [.slice a ls.length c, .func (.func fc) #[] #[.pointer (some ⟨bt, 0, none⟩)]]) Try.func48 rfl rfl ?_
  refine C.seq ?_
  refine C.region ?_
  refine G.assignI rfl trivial rfl rfl rfl ?_
  refine G.nil ?_
  refine C.seq ?_
  refine C.seq ?_
  refine C.region ?_
  refine G.moveS rfl trivial rfl rfl rfl ?_
  refine G.lenSlice rfl trivial rfl rfl Try.underlying27 rfl ?_
  refine G.moveI rfl trivial rfl rfl rfl ?_
  refine G.nil ?_
  refine C.block ?_
  refine C.loop (fun m F D' L' => ∃ (i : Nat), m = ls.length - i + 0 ∧ i ≤ ls.length ∧ (∀ y ∈ ls.take i, y ≠ t) ∧ F 0 = .slice a ls.length c ∧ F 1 = .func (.func fc) #[] #[.pointer (some ⟨bt, 0, none⟩)] ∧ F 7 = .int .i64 (ls.length : Int) ∧ F 8 = .int .i64 (i : Int) ∧ D' = [] ∧ s1 :: [(bt, .row [.int .i64 t] 2 1)] :: L = L') ⟨_, ⟨0, rfl, Nat.zero_le _, by simp, rfl, rfl, rfl, rfl, rfl, rfl⟩⟩ ?_
  rintro m F D' L' ⟨i, rfl, hi, hx, h0, h1, h7, h8, rfl, rfl⟩
  refine C.fix (d := 0) h0 ?_
  refine C.fix (d := 1) h1 ?_
  refine C.fix (d := 7) h7 ?_
  refine C.fix (d := 8) h8 ?_
  refine C.seq ?_
  refine C.region ?_
  refine G.bin rfl trivial rfl rfl rfl rfl rfl ?_
  refine G.nil ?_
  refine C.seq ?_
  refine C.cond _ rfl ?_ ?_
  · intro hc0
    have hlt : i < ls.length := by omega
    obtain ⟨bq, cq, kq, hveq, rfl, hq1, hq2⟩ := hv.block (by omega)
    cases hveq
    refine C.skip ?_
    refine C.seq ?_
    refine C.block ?_
    refine C.seq ?_
    refine C.region ?_
    refine G.moveI rfl trivial rfl rfl rfl ?_
    refine G.assignI rfl trivial rfl rfl rfl ?_
    refine G.nil ?_
    refine C.seq ?_
    refine C.region ?_
    refine G.moveF rfl trivial rfl rfl rfl ?_
    refine G.moveS rfl trivial rfl rfl rfl ?_
    refine G.moveI rfl trivial rfl rfl rfl ?_
    refine G.idxN rfl trivial rfl rfl Try.underlying27 I2 rfl rfl (by omega) ?_
    refine G.loadAt .here rfl trivial rfl rfl Try.underlying2 rfl rfl (map_at hlt) ?_
    refine G.callV hent rfl rfl rfl trivial rfl rfl (hfc _ bt t ls[i]! _ (.next .here)) rfl ?_
    rintro e L2 ⟨rfl, rfl⟩
    refine G.nil ?_
    refine C.cond _ rfl ?_ ?_
    · intro hc1
      refine C.seq ?_
      refine C.region ?_
      refine G.moveI rfl trivial rfl rfl rfl ?_
      refine G.assignI rfl trivial rfl rfl rfl ?_
      refine G.nil ?_
      refine C.ret ?_
      -- end c0Tc1T
      exact ⟨rfl, _, Res.of (rs := [.tmp 4]) rfl rfl, rfl, _, rfl, .inr ⟨i, hlt, rfl, hc1, hx⟩⟩
    · intro hc1
      refine C.skip ?_
      refine C.region ?_
      refine G.addN (j := 1) rfl trivial rfl rfl rfl rfl (by omega) ?_
      refine G.moveI rfl trivial rfl rfl rfl ?_
      refine G.nil ?_
      exact ⟨ls.length - (i + 1) + 0, by omega, i + 1, rfl, by omega, by rw [take_snoc hlt]; intro y hy; rcases List.mem_append.1 hy with h | h; exact hx y h; rw [List.mem_singleton.1 h]; exact hc1, rfl, rfl, rfl, rfl, rfl, rfl⟩
  · intro hc0
    refine C.exit ?_
    refine C.seq ?_
    refine C.region ?_
    refine G.assignI rfl trivial rfl rfl rfl ?_
    refine G.nil ?_
    refine C.ret ?_
    -- end c0F
    exact ⟨rfl, _, Res.of (rs := [.tmp 4]) rfl rfl, rfl, _, rfl, .inl ⟨rfl, by rwa [List.take_of_length_le (by omega)] at hx⟩⟩
theorem deleteI_spec (L : List Seg) (v : Value) (l : List Int) (s1 : Seg) (hv : OwnS v l.length (l.map (Value.int .i64)) 2 1 s1) (hl : l.length ≤ 1000000) (bt : Nat) (t : Int) :
    FnS Try.prog W0 30 #[v, .func (.func fc) #[] #[.pointer (some ⟨bt, 0, none⟩)]] (s1 :: [(bt, .row [.int .i64 t] 2 1)] :: L)
      (fun e L' => ∃ v' s1', OwnS v' (without t l).length ((without t l).map (Value.int .i64)) 2 1 s1' ∧ L' = s1' :: [(bt, .row [.int .i64 t] 2 1)] :: L ∧ e = .returned v') := by
  obtain ⟨a, c, rfl, _⟩ := hv.form
  refine FnS.of (args := [.slice a l.length c, .func (.func fc) #[] #[.pointer (some ⟨bt, 0, none⟩)]]) Try.func30 rfl rfl ?_
  refine C.seq ?_
  refine C.region ?_
  refine G.assignS rfl trivial rfl rfl rfl ?_
  refine G.nil ?_
  refine C.seq ?_
  refine C.region ?_
  refine G.moveS rfl trivial rfl rfl rfl ?_
  refine G.moveF rfl trivial rfl rfl rfl ?_
  refine G.call E48 rfl rfl trivial rfl rfl (indexI_spec W0 fc hent hfc L _ l s1 hv hl bt t) rfl ?_
  rintro e L2 ⟨rfl, r, rfl, hr⟩
  refine G.assignI rfl trivial rfl rfl rfl ?_
  refine G.nil ?_
  refine C.seq ?_
  refine C.seq ?_
  refine C.region ?_
  refine G.moveI rfl trivial rfl rfl rfl ?_
  refine G.bin rfl trivial rfl rfl rfl rfl rfl ?_
  refine G.nil ?_
  refine C.cond _ rfl ?_ ?_
  · intro hc0
    refine C.seq ?_
    refine C.region ?_
    refine G.moveS rfl trivial rfl rfl rfl ?_
    refine G.assignS rfl trivial rfl rfl rfl ?_
    refine G.nil ?_
    refine C.ret ?_
    -- end c0T
    have hno := (hr.resolve_right (fun ⟨i, _, h, _⟩ => by omega)).2
    exact ⟨rfl, _, Res.of (rs := [.tmp 4]) rfl rfl, _, s1, by rw [without_none hno]; exact hv, rfl, rfl⟩
  · intro hc0
    obtain ⟨i0, hi0, rfl, hit, hno⟩ := hr.resolve_left (fun h => hc0 h.1)
    obtain ⟨bq, cq, kq, hveq, rfl, hq1, hq2⟩ := hv.block (by omega)
    cases hveq
    obtain ⟨d, rfl⟩ : ∃ d : Array Int, d.toList = l := ⟨l.toArray, rfl⟩
    have hdl : d.toList.length = d.size := Array.length_toList
    rw [get_toList] at hit
    refine C.less (L' := [(bq, .row (ic d []) 2 kq)] :: [(bt, .row [.int .i64 t] 2 1)] :: L) (fun _ h => by simpa [ic] using h) ?_
    refine C.skip ?_
    refine C.seq ?_
    refine C.seq ?_
    refine C.region ?_
    refine G.moveI rfl trivial rfl rfl rfl ?_
    refine G.addN (j := 1) rfl trivial rfl rfl rfl rfl (by omega) ?_
    refine G.assignI rfl trivial rfl rfl rfl ?_
    refine G.nil ?_
    refine C.block ?_
    refine C.loop (fun m F D' L' => ∃ (i j : Nat) (e : Array Int), m = d.size - j + 0 ∧ i < j ∧ j ≤ d.size ∧ e.size = d.size ∧ e.toList.take i = without t (d.toList.take j) ∧ (∀ k, j ≤ k → e[k]! = d[k]!) ∧ F 0 = .slice (some ⟨bq, 0, none⟩) d.toList.length c ∧ F 1 = .func (.func fc) #[] #[.pointer (some ⟨bt, 0, none⟩)] ∧ F 5 = .int .i64 (i : Int) ∧ F 6 = .int .i64 (j : Int) ∧ D' = [] ∧ [(bq, .row (ic e []) 2 kq)] :: [(bt, .row [.int .i64 t] 2 1)] :: L = L') ⟨_, ⟨i0, i0 + 1, d, rfl, by omega, by omega, rfl, by rw [without_take hi0, get_toList, if_pos hit, without_none hno], fun _ _ => rfl, rfl, rfl, rfl, rfl, rfl, rfl⟩⟩ ?_
    rintro m F D' L' ⟨i, j, e, rfl, hij, hj, he, hot, hrest, h0, h1, h5, h6, rfl, rfl⟩
    refine C.fix (d := 0) h0 ?_
    refine C.fix (d := 1) h1 ?_
    refine C.fix (d := 5) h5 ?_
    refine C.fix (d := 6) h6 ?_
    refine C.seq ?_
    refine C.seq ?_
    refine C.region ?_
    refine G.moveI rfl trivial rfl rfl rfl ?_
    refine G.moveS rfl trivial rfl rfl rfl ?_
    refine G.lenSlice rfl trivial rfl rfl Try.underlying27 rfl ?_
    refine G.bin rfl trivial rfl rfl rfl rfl rfl ?_
    refine G.nil ?_
    refine C.cond _ rfl ?_ ?_
    · intro hc1
      have hlt : j < d.size := by omega
      have hej : e[j]! = d[j]! := hrest j (Nat.le_refl _)
      have hsn := without_take (t := t) (l := d.toList) (j := j) (by omega)
      rw [get_toList] at hsn
      refine C.skip ?_
      refine C.seq ?_
      refine C.block ?_
      refine C.seq ?_
      refine C.region ?_
      refine G.moveS rfl trivial rfl rfl rfl ?_
      refine G.moveI rfl trivial rfl rfl rfl ?_
      refine G.idxN rfl trivial rfl rfl Try.underlying27 I2 rfl rfl (by omega) ?_
      refine G.ldI .here rfl trivial rfl rfl Try.underlying2 rfl rfl (by omega) ?_
      refine G.assignI rfl trivial rfl rfl rfl ?_
      refine G.nil ?_
      refine C.seq ?_
      refine C.region ?_
      refine G.moveF rfl trivial rfl rfl rfl ?_
      refine G.moveI rfl trivial rfl rfl rfl ?_
      refine G.callV hent rfl rfl rfl trivial rfl rfl (hfc _ bt t e[j]! _ (.next .here)) rfl ?_
      rintro e2 L2 ⟨rfl, rfl⟩
      first | refine G.notD rfl trivial rfl rfl rfl ?_ | refine G.not rfl trivial rfl rfl rfl ?_
      refine G.nil ?_
      refine C.cond _ rfl ?_ ?_
      · intro hc2
        refine C.seq ?_
        refine C.region ?_
        refine G.moveS rfl trivial rfl rfl rfl ?_
        refine G.moveI rfl trivial rfl rfl rfl ?_
        refine G.moveI rfl trivial rfl rfl rfl ?_
        refine G.idxN rfl trivial rfl rfl Try.underlying27 I2 rfl rfl (by omega) ?_
        refine G.stI .here rfl trivial rfl I2 rfl rfl (by first | omega | (simp only [Array.size_setIfInBounds]; omega)) ?_
        refine G.nil ?_
        refine C.region ?_
        refine G.moveI rfl trivial rfl rfl rfl ?_
        refine G.addN (j := 1) rfl trivial rfl rfl rfl rfl (by omega) ?_
        refine G.assignI rfl trivial rfl rfl rfl ?_
        refine G.nil ?_
        refine C.region ?_
        refine G.moveI rfl trivial rfl rfl rfl ?_
        refine G.addN (j := 1) rfl trivial rfl rfl rfl rfl (by omega) ?_
        refine G.assignI rfl trivial rfl rfl rfl ?_
        refine G.nil ?_
        refine ⟨d.size - (j + 1) + 0, by omega, i + 1, j + 1, e.setIfInBounds i e[j]!, rfl, by omega, by omega, by simp [he], ?_, fun k hk => ?_, rfl, rfl, rfl, rfl, rfl, rfl⟩
        · rw [hsn, if_neg (by rw [← hej]; exact hc2), ← hot, hej, Array.toList_setIfInBounds, List.take_succ_eq_append_getElem (by simp; omega)]
          simp [List.take_set_of_le]
        · rw [← hrest k (by omega)]
          by_cases hib : k < e.size
          · simp [hib, show ¬ i = k by omega]
          · simp [hib]
      · intro hc2
        refine C.skip ?_
        refine C.region ?_
        refine G.moveI rfl trivial rfl rfl rfl ?_
        refine G.addN (j := 1) rfl trivial rfl rfl rfl rfl (by omega) ?_
        refine G.assignI rfl trivial rfl rfl rfl ?_
        refine G.nil ?_
        exact ⟨d.size - (j + 1) + 0, by omega, i, j + 1, e, rfl, by omega, by omega, he, by rw [hsn, if_pos (by rw [← hej]; exact Classical.not_not.1 hc2)]; exact hot, fun k hk => hrest k (by omega), rfl, rfl, rfl, rfl, rfl, rfl⟩
    · intro hc1
      refine C.exit ?_
      refine C.seq ?_
      refine C.region ?_
      refine G.moveS rfl trivial rfl rfl rfl ?_
      refine G.moveI rfl trivial rfl rfl rfl ?_
      refine G.sliceL rfl trivial rfl rfl Try.underlying27 I2 rfl rfl (by omega) ?_
      refine G.fix (d := 38) (v := .slice (some ⟨bq, i, none⟩) (d.size - i) (c - i)) (by show Value.slice (cutA (some ⟨bq, 0, none⟩) c (i : Int).toNat 1) (d.toList.length - (i : Int).toNat) (c - (i : Int).toNat) = _; unfold cutA; rw [Int.toNat_natCast, if_neg (by omega), hdl]; simp [add_mul_addr]) ?_
      refine G.clear .here rfl trivial rfl Try.underlying27 I2 rfl (fun v hv => by simp [Value.cells] at hv; rcases hv with rfl; rfl) rfl (by rw [ic_length]; simp; omega) ?_
      intro vs hvs
      refine G.nil ?_
      refine C.seq ?_
      refine C.region ?_
      refine G.moveS rfl trivial rfl rfl rfl ?_
      refine G.moveI rfl trivial rfl rfl rfl ?_
      refine G.sliceH rfl trivial rfl rfl Try.underlying27 I2 rfl rfl (by omega) ?_
      refine G.assignS rfl trivial rfl rfl rfl ?_
      refine G.less (L' := [(bq, .row ((e.toList.take i).map (Value.int .i64)) 2 kq)] :: [(bt, .row [.int .i64 t] 2 1)] :: L) (fun _ h => by have h2 := h.forget .here i; rw [List.append_assoc, List.take_append_of_le_length (by rw [List.length_take, ic_length]; simp; omega), List.take_take, Nat.min_self] at h2; simpa [ic, List.map_take] using h2) ?_
      refine G.nil ?_
      refine C.ret ?_
      -- end c0Fc1F
      have hjl : j = d.size := by omega
      rw [hjl, ← hdl, List.take_length] at hot
      have hol : i = (without t d.toList).length := by rw [← hot, List.length_take]; simp; omega
      subst hol
      exact ⟨rfl, _, Res.of (rs := [.tmp 4]) rfl rfl, _, _, OwnS.mk (k := kq) (by simp) hq1 (by omega), by rw [hot], rfl⟩
end lib
end Go.Proofs.Ytomiidlbfcfpiaa
