/-
  Transactions: the program's functions walked.
-/
import Derived.Test.YtomiidlbfcfpiaaTk0
namespace Go.Proofs.Ytomiidlbfcfpiaa
open Go Go.SL Go.RowKit Go.Sort

theorem PS (A B L : List Seg) : (A ++ (B ++ L)).flatten.Perm (B ++ (A ++ L)).flatten := (List.perm_append_comm_assoc A B L).flatten
/-- transactions: one segment of all their blocks -/
def TxIs (bt : Nat) (ids : List Int) (ls : List One) (g : Int → List Int) (N : Nat) (s : Seg) : Prop := ∃ vi si bk l1 l2 bw w1 w2 w3, OwnS vi ids.length (ids.map (Value.int .i64)) 2 1 si ∧ LkIs bk ls l1 l2 ∧ WtIs bw g N w1 w2 w3 ∧
  s = si ++ ([(bt, .row [vi, .pointer (some ⟨bk, 0, none⟩), .pointer (some ⟨bw, 0, none⟩)] 54 3)] ++ (l1 ++ (l2 ++ (w1 ++ (w2 ++ w3)))))
def beginC (ids : List Int) (id : Int) : Int := if id < 1 ∨ 1099511627776 < id then 1 else if id ∈ ids then 7 else if 8 ≤ ids.length then 4 else 0
theorem sort_ins {ids : List Int} {id : Int} (h : ids.Pairwise (· < ·)) (hn : id ∉ ids) : sortL (ids ++ [id]) = insL ids id := by
  refine rising_one _ _ ?_ (insL_rising id h) fun a => ?_
  · have h1 := sortL_up (ids ++ [id])
    have h2 : (sortL (ids ++ [id])).Nodup := by
      unfold sortL
      refine (List.mergeSort_perm _ _).nodup_iff.2 ?_
      rw [List.nodup_append]
      refine ⟨h.imp (fun h => by omega), by simp, fun a ha b hb hab => ?_⟩
      rw [List.mem_singleton.1 hb] at hab
      exact hn (hab ▸ ha)
    exact (h1.and h2).imp fun ⟨h3, h4⟩ => by omega
  · rw [sortL_mem, insL_mem]
    simp [or_comm]
theorem refused_ne {x : One} {ls : List One} (h : onL x ls ≠ []) : (refused x ls).length ≠ 0 := by
  unfold refused
  rw [set_same]
  intro h2
  exact h ((insAll_nil _).1 h2)
theorem locked_no {x : One} {ls : List One} (h : onL x ls ≠ []) : locked x ls = ls := by unfold locked; rw [if_neg h]
/-- what asking for a lock comes to -/
def LockR (ids : List Int) (ls : List One) (g : Int → List Int) (id mo : Int) (k : ByteArray) (r : Int) (ls' : List One) (g' : Int → List Int) : Prop :=
  (id ∉ ids ∧ r = 6 ∧ ls' = ls ∧ g' = g) ∨ (id ∈ ids ∧ ¬ (1 ≤ mo ∧ mo ≤ 3) ∧ r = 1 ∧ ls' = ls ∧ g' = g) ∨
  (id ∈ ids ∧ (1 ≤ mo ∧ mo ≤ 3) ∧ onL (lockOf id mo k) ls = [] ∧ r = 0 ∧ ls' = locked (lockOf id mo k) ls ∧ g' = setG g id []) ∨
  (id ∈ ids ∧ (1 ≤ mo ∧ mo ≤ 3) ∧ onL (lockOf id mo k) ls ≠ [] ∧ Rch g (insAll (onL (lockOf id mo k) ls)) id ∧ r = 11 ∧ ls' = ls ∧ g' = g) ∨
  (id ∈ ids ∧ (1 ≤ mo ∧ mo ≤ 3) ∧ onL (lockOf id mo k) ls ≠ [] ∧ ¬ Rch g (insAll (onL (lockOf id mo k) ls)) id ∧ r = 10 ∧ ls' = ls ∧ g' = setG g id (insAll (onL (lockOf id mo k) ls)))
theorem rch_nil (g : Int → List Int) (t : Int) : ¬ Rch g [] t := not_rch (sl := []) (by simp) (by simp) (by simp)
theorem insAll_idem {l : List Int} : insAll (insAll l) = insAll l := rising_one _ _ (insAll_up _ _ rfl) (insAll_up _ _ rfl) fun a => by rw [insAll_mem _ _ rfl]
section txn
variable (W0 : World)
theorem indexN_spec (L : List Seg) (a : Option Addr) (c : Nat) (xs : List Int) (hx : Rd W0 L a (xs.map (Value.int .i64))) (hl : xs.length ≤ 1000000) (x : Int) :
    FnS Try.prog W0 53 #[.slice a xs.length c, .int .i64 x] L (fun e L' => L' = L ∧ ∃ r : Int, (0 ≤ r ↔ x ∈ xs) ∧ e = .returned (.int .i64 r)) := by
  refine FnS.of (args := [.slice a xs.length c, .int .i64 x]) Try.func53 rfl rfl ?_
  refine C.seq ?_
  refine C.region ?_
  refine G.assignI rfl trivial rfl rfl rfl ?_
  refine G.nil ?_
  refine C.seq ?_
  refine C.seq ?_
  refine C.region ?_
  refine G.moveS rfl trivial rfl rfl rfl ?_
  refine G.lenSlice rfl trivial rfl rfl Try.underlying27 rfl ?_
  refine G.moveI rfl trivial rfl rfl rfl ?_
  refine G.nil ?_
  refine C.block ?_
  refine C.loop (fun m F D' L' => ∃ (i : Nat), m = xs.length - i + 0 ∧ i ≤ xs.length ∧ x ∉ xs.take i ∧ F 0 = .slice a xs.length c ∧ F 1 = .int .i64 x ∧ F 7 = .int .i64 (xs.length : Int) ∧ F 8 = .int .i64 (i : Int) ∧ D' = [] ∧ L = L') ⟨_, ⟨0, rfl, Nat.zero_le _, by simp, rfl, rfl, rfl, rfl, rfl, rfl⟩⟩ ?_
  rintro m F D' L' ⟨i, rfl, hi, hn, h0, h1, h7, h8, rfl, rfl⟩
  refine C.fix (d := 0) h0 ?_
  refine C.fix (d := 1) h1 ?_
  refine C.fix (d := 7) h7 ?_
  refine C.fix (d := 8) h8 ?_
  refine C.seq ?_
  refine C.region ?_
  refine G.bin rfl trivial rfl rfl rfl rfl rfl ?_
  refine G.nil ?_
  refine C.seq ?_
  refine C.cond _ rfl ?_ ?_
  · intro hc0
    have hlt : i < xs.length := by omega
    obtain ⟨p, o, rfl, _⟩ := hx.some_ (by simp; omega)
    refine C.skip ?_
    refine C.seq ?_
    refine C.block ?_
    refine C.seq ?_
    refine C.region ?_
    refine G.moveI rfl trivial rfl rfl rfl ?_
    refine G.assignI rfl trivial rfl rfl rfl ?_
    refine G.nil ?_
    refine C.seq ?_
    refine C.region ?_
    refine G.moveI rfl trivial rfl rfl rfl ?_
    refine G.moveS rfl trivial rfl rfl rfl ?_
    refine G.moveI rfl trivial rfl rfl rfl ?_
    refine G.indexAddr rfl trivial rfl rfl Try.underlying27 I2 rfl rfl (by omega) ?_
    refine G.load rfl trivial rfl rfl Try.underlying2 rfl rfl (rd_at hx hlt) ?_
    refine G.bin rfl trivial rfl rfl rfl rfl rfl ?_
    refine G.nil ?_
    refine C.cond _ rfl ?_ ?_
    · intro hc1
      refine C.seq ?_
      refine C.region ?_
      refine G.moveI rfl trivial rfl rfl rfl ?_
      refine G.assignI rfl trivial rfl rfl rfl ?_
      refine G.nil ?_
      refine C.ret ?_
      -- end c0Tc1T
      have hmem : x ∈ xs := by rw [hc1]; simp [hlt]
      exact ⟨rfl, _, Res.of (rs := [.tmp 4]) rfl rfl, rfl, _, ⟨fun _ => hmem, fun _ => by omega⟩, rfl⟩
    · intro hc1
      refine C.skip ?_
      refine C.region ?_
      refine G.addN (j := 1) rfl trivial rfl rfl rfl rfl (by omega) ?_
      refine G.moveI rfl trivial rfl rfl rfl ?_
      refine G.nil ?_
      exact ⟨xs.length - (i + 1) + 0, by omega, i + 1, rfl, by omega, by rw [List.take_succ_eq_append_getElem hlt, List.mem_append, List.mem_singleton]; rintro (h | h); exact hn h; exact hc1 (by rw [h]; simp [hlt]), rfl, rfl, rfl, rfl, rfl, rfl⟩
  · intro hc0
    refine C.exit ?_
    refine C.seq ?_
    refine C.region ?_
    refine G.assignI rfl trivial rfl rfl rfl ?_
    refine G.nil ?_
    refine C.ret ?_
    -- end c0F
    rw [List.take_of_length_le (by omega)] at hn
    exact ⟨rfl, _, Res.of (rs := [.tmp 4]) rfl rfl, rfl, _, ⟨fun h => absurd h (by decide), fun h => absurd h hn⟩, rfl⟩
theorem containsN_spec (L : List Seg) (a : Option Addr) (c : Nat) (xs : List Int) (hx : Rd W0 L a (xs.map (Value.int .i64))) (hl : xs.length ≤ 1000000) (x : Int) :
    FnS Try.prog W0 37 #[.slice a xs.length c, .int .i64 x] L (fun e L' => L' = L ∧ e = .returned (.bool (decide (x ∈ xs)))) := by
  refine FnS.of (args := [.slice a xs.length c, .int .i64 x]) Try.func37 rfl rfl ?_
  refine C.seq ?_
  refine C.region ?_
  refine G.assignB rfl trivial rfl rfl rfl ?_
  refine G.nil ?_
  refine C.seq ?_
  refine C.region ?_
  refine G.moveS rfl trivial rfl rfl rfl ?_
  refine G.moveI rfl trivial rfl rfl rfl ?_
  refine G.call E53 rfl rfl trivial rfl rfl (indexN_spec W0 _ a c xs hx hl x) rfl ?_
  rintro e L2 ⟨rfl, r, hr, rfl⟩
  refine G.bin rfl trivial rfl rfl rfl rfl rfl ?_
  refine G.assignB rfl trivial rfl rfl rfl ?_
  refine G.nil ?_
  refine C.ret ?_
  -- end 
  exact ⟨rfl, _, Res.of (rs := [.tmp 4]) rfl rfl, rfl, by show Ending.returned (Value.bool (decide (0 ≤ r))) = _; congr 2; rw [decide_eq_decide]; exact hr⟩
theorem tend1_spec : Strikes W0 31 := by
  intro L bt t y u ha
  refine FnS.of (args := [.int .i64 y, .pointer (some ⟨bt, 0, none⟩)]) Try.func31 rfl rfl ?_
  refine C.seq ?_
  refine C.region ?_
  refine G.assignB rfl trivial rfl rfl rfl ?_
  refine G.nil ?_
  refine C.seq ?_
  refine C.region ?_
  refine G.moveI rfl trivial rfl rfl rfl ?_
  refine G.loadAt ha rfl trivial rfl rfl Try.underlying2 rfl rfl rfl ?_
  refine G.bin rfl trivial rfl rfl rfl rfl rfl ?_
  refine G.assignB rfl trivial rfl rfl rfl ?_
  refine G.nil ?_
  refine C.ret ?_
  -- end 
  exact ⟨rfl, _, Res.of (rs := [.tmp 3]) rfl rfl, rfl, rfl⟩
theorem tbegin_nil (L : List Seg) (id : Int) : FnS Try.prog W0 11 #[.pointer none, .int .i64 id] L (fun e L' => L' = L ∧ e = .returned (.int .i64 5)) := by
  refine FnS.of (args := [.pointer none, .int .i64 id]) Try.func11 rfl rfl ?_
  refine C.seq ?_
  refine C.region ?_
  refine G.assignI rfl trivial rfl rfl rfl ?_
  refine G.nil ?_
  refine C.seq ?_
  refine C.block ?_
  refine C.seq ?_
  refine C.region ?_
  refine G.moveP rfl trivial rfl rfl rfl ?_
  refine G.ptrEq rfl trivial rfl rfl Try.underlying24 rfl rfl ?_
  refine G.assignB rfl trivial rfl rfl rfl ?_
  refine G.nil ?_
  refine C.condT rfl ?_
  refine C.seq ?_
  refine C.region ?_
  refine G.assignI rfl trivial rfl rfl rfl ?_
  refine G.nil ?_
  refine C.ret ?_
  -- end 
  exact ⟨rfl, _, Res.of (rs := [.tmp 4]) rfl rfl, rfl, rfl⟩
theorem tis_nil (L : List Seg) (id : Int) : FnS Try.prog W0 19 #[.pointer none, .int .i64 id] L (fun e L' => L' = L ∧ e = .returned (.bool false)) := by
  refine FnS.of (args := [.pointer none, .int .i64 id]) Try.func19 rfl rfl ?_
  refine C.seq ?_
  refine C.region ?_
  refine G.assignB rfl trivial rfl rfl rfl ?_
  refine G.nil ?_
  refine C.seq ?_
  refine C.region ?_
  refine G.moveP rfl trivial rfl rfl rfl ?_
  refine G.ptrNe rfl trivial rfl rfl Try.underlying24 rfl rfl ?_
  refine G.moveB rfl trivial rfl rfl rfl ?_
  refine G.skip rfl rfl rfl rfl rfl rfl ?_
  refine G.skip rfl rfl rfl rfl rfl rfl ?_
  refine G.skip rfl rfl rfl rfl rfl rfl ?_
  refine G.skip rfl rfl rfl rfl rfl rfl ?_
  refine G.skip rfl rfl rfl rfl rfl rfl ?_
  refine G.skip rfl rfl rfl rfl rfl rfl ?_
  first | refine G.pickT rfl trivial rfl rfl rfl rfl ?_ | refine G.pickF rfl trivial rfl rfl rfl rfl ?_
  refine G.assignB rfl trivial rfl rfl rfl ?_
  refine G.nil ?_
  refine C.ret ?_
  -- end 
  exact ⟨rfl, _, Res.of (rs := [.tmp 4]) rfl rfl, rfl, rfl⟩
theorem tlist_nil (L : List Seg) : FnS Try.prog W0 18 #[.pointer none] L (fun e L' => L' = L ∧ e = .returned (.slice none 0 0)) := by
  refine FnS.of (args := [.pointer none]) Try.func18 rfl rfl ?_
  refine C.seq ?_
  refine C.region ?_
  refine G.assignS rfl trivial rfl rfl rfl ?_
  refine G.nil ?_
  refine C.seq ?_
  refine C.seq ?_
  refine C.region ?_
  refine G.moveP rfl trivial rfl rfl rfl ?_
  refine G.ptrEq rfl trivial rfl rfl Try.underlying24 rfl rfl ?_
  refine G.nil ?_
  refine C.condT rfl ?_
  refine C.seq ?_
  refine C.region ?_
  refine G.assignS rfl trivial rfl rfl rfl ?_
  refine G.nil ?_
  refine C.ret ?_
  -- end 
  exact ⟨rfl, _, Res.of (rs := [.tmp 2]) rfl rfl, rfl, rfl⟩
theorem tlock_nil (L : List Seg) (id mo : Int) (k : ByteArray) : FnS Try.prog W0 13 #[.pointer none, .int .i64 id, .int .i64 mo, .string k] L (fun e L' => L' = L ∧ e = .returned (.int .i64 5)) := by
  refine FnS.of (args := [.pointer none, .int .i64 id, .int .i64 mo, .string k]) Try.func13 rfl rfl ?_
  refine C.seq ?_
  refine C.region ?_
  refine G.assignI rfl trivial rfl rfl rfl ?_
  refine G.nil ?_
  refine C.seq ?_
  refine C.block ?_
  refine C.seq ?_
  refine C.region ?_
  refine G.moveP rfl trivial rfl rfl rfl ?_
  refine G.ptrEq rfl trivial rfl rfl Try.underlying24 rfl rfl ?_
  refine G.assignB rfl trivial rfl rfl rfl ?_
  refine G.nil ?_
  refine C.condT rfl ?_
  refine C.seq ?_
  refine C.region ?_
  refine G.assignI rfl trivial rfl rfl rfl ?_
  refine G.nil ?_
  refine C.ret ?_
  -- end 
  exact ⟨rfl, _, Res.of (rs := [.tmp 8]) rfl rfl, rfl, rfl⟩
theorem tend_nil (L : List Seg) (id : Int) : FnS Try.prog W0 15 #[.pointer none, .int .i64 id] L (fun e L' => L' = L ∧ e = .returned (.bool false)) := by
  refine FnS.of (args := [.pointer none, .int .i64 id]) Try.func15 rfl rfl ?_
  refine C.seq ?_
  refine C.region ?_
  refine G.boxI rfl trivial rfl rfl rfl ?_
  intro b3
  refine G.assignB rfl trivial rfl rfl rfl ?_
  refine G.nil ?_
  refine C.seq ?_
  refine C.seq ?_
  refine C.region ?_
  refine G.moveP rfl trivial rfl rfl rfl ?_
  refine G.loadAt (by first | exact .here | exact .next .here | exact .next (.next .here) | exact .next (.next (.next .here)) | exact .next (.next (.next (.next .here))) | exact .next (.next (.next (.next (.next .here)))) | exact .next (.next (.next (.next (.next (.next .here))))) | exact .next (.next (.next (.next (.next (.next (.next .here)))))) | exact .in1 | exact .next .in1 | exact .next (.next .in1) | exact .next (.next (.next .in1)) | exact .next (.next (.next (.next .in1))) | exact .in2 | exact .next .in2 | exact .next (.next .in2) | exact .next (.next (.next .in2)) | exact .next (.next (.next (.next .in2))) | exact .app .here | exact .app (.next .here) | exact .app (.next (.next .here)) | exact .app (.next (.next (.next .here))) | exact .app (.next (.next (.next (.next .here)))) | exact .app (.next (.next (.next (.next (.next .here))))) | exact .app (.next (.next (.next (.next (.next (.next .here)))))) | exact .app (.next (.next (.next (.next (.next (.next (.next .here))))))) | exact .app .in1 | exact .app .in2 | exact .app (.next .in1) | exact .next (.app .in1) | exact .next (.next (.app .in1)) | exact .next (.app .here) | exact .next (.next (.app .here)) | exact .next (.next (.next (.app .here))) | exact .next (.next (.next (.next (.app .here))))) rfl trivial rfl rfl Try.underlying2 rfl rfl (by rfl) ?_
  refine G.call E19 rfl rfl trivial rfl rfl (tis_nil W0 _ id) rfl ?_
  rintro e L2 ⟨rfl, rfl⟩
  first | refine G.notD rfl trivial rfl rfl rfl ?_ | refine G.not rfl trivial rfl rfl rfl ?_
  refine G.nil ?_
  refine C.condT rfl ?_
  refine C.seq ?_
  refine C.region ?_
  refine G.assignB rfl trivial rfl rfl rfl ?_
  refine G.nil ?_
  refine C.less (fun _ h => h.tail) ?_
  refine C.ret ?_
  -- end 
  exact ⟨rfl, _, Res.of (rs := [.tmp 4]) rfl rfl, rfl, rfl⟩
theorem tnew_spec (L : List Seg) : FnS Try.prog W0 9 #[] L (fun e L' => ∃ bt s, TxIs bt [] [] (fun _ => []) 0 s ∧ L' = s :: L ∧ e = .returned (.pointer (some ⟨bt, 0, none⟩))) := by
  refine FnS.of (args := []) Try.func9 rfl rfl ?_
  refine C.seq ?_
  refine C.region ?_
  refine G.assignP rfl trivial rfl rfl rfl ?_
  refine G.nil ?_
  refine C.seq ?_
  refine C.region ?_
  refine G.call E21 rfl rfl trivial rfl rfl (new_spec W0 _) rfl ?_
  rintro e L2 ⟨bk, l1, l2, hk, rfl, rfl⟩
  refine G.call E22 rfl rfl trivial rfl rfl (wnew_spec W0 _) rfl ?_
  rintro e L2 ⟨bw, w1, w2, w3, hw, rfl, rfl⟩
  refine G.buildL (cs := [.slice none 0 0, .pointer (some ⟨bk, 0, none⟩), .pointer (some ⟨bw, 0, none⟩)]) rfl trivial rfl rfl Try.underlying54 I54 B54 rfl rfl ?_
  refine G.boxG rfl trivial rfl rfl rfl ?_
  intro b4
  refine G.assignP rfl trivial rfl rfl rfl ?_
  refine G.nil ?_
  refine C.less (L' := ([] ++ ([(b4, .row [.slice none 0 0, .pointer (some ⟨bk, 0, none⟩), .pointer (some ⟨bw, 0, none⟩)] 54 3)] ++ (l1 ++ (l2 ++ (w1 ++ (w2 ++ w3)))))) :: L) (fun _ h => (h.of_flat ((List.perm_append_comm_assoc [w1, w2, w3] [l1, l2] L).cons _).flatten).of_flat (by simp)) ?_
  refine C.ret ?_
  -- end 
  exact ⟨rfl, _, Res.of (rs := [.tmp 0]) rfl rfl, b4, _, ⟨_, [], bk, l1, l2, bw, w1, w2, w3, OwnS.nil _ _, hk, hw, rfl⟩, rfl, rfl⟩
variable (bt : Nat)
theorem tis_open (L : List Seg) (vi pk pw : Value) (ids : List Int) (si : Seg) (hv : OwnS vi ids.length (ids.map (Value.int .i64)) 2 1 si) (hl : ids.length ≤ 1000) (id : Int) : FnS Try.prog W0 19 #[.pointer (some ⟨bt, 0, none⟩), .int .i64 id] (si :: [(bt, .row [vi, pk, pw] 54 3)] :: L) (fun e L' => L' = si :: [(bt, .row [vi, pk, pw] 54 3)] :: L ∧ e = .returned (.bool (decide (id ∈ ids)))) := by
  obtain ⟨a, c, rfl, hr⟩ := hv.form
  refine FnS.of (args := [.pointer (some ⟨bt, 0, none⟩), .int .i64 id]) Try.func19 rfl rfl ?_
  refine C.seq ?_
  refine C.region ?_
  refine G.assignB rfl trivial rfl rfl rfl ?_
  refine G.nil ?_
  refine C.seq ?_
  refine C.region ?_
  refine G.moveP rfl trivial rfl rfl rfl ?_
  refine G.ptrNe rfl trivial rfl rfl Try.underlying24 rfl rfl ?_
  refine G.moveB rfl trivial rfl rfl rfl ?_
  refine G.moveP rfl ⟨_, rfl, rfl, rfl⟩ rfl rfl rfl ?_
  first | refine G.nilCheckP rfl ⟨_, rfl, rfl, rfl⟩ rfl rfl rfl ?_ | refine G.nilCheckF rfl ⟨_, rfl, rfl, rfl⟩ rfl rfl rfl ?_
  refine G.fieldAddr rfl ⟨_, rfl, rfl, rfl⟩ rfl rfl Try.underlying54 rfl I27 rfl rfl ?_
  refine G.loadAt (by first | exact .here | exact .next .here | exact .next (.next .here) | exact .next (.next (.next .here)) | exact .next (.next (.next (.next .here))) | exact .next (.next (.next (.next (.next .here)))) | exact .next (.next (.next (.next (.next (.next .here))))) | exact .next (.next (.next (.next (.next (.next (.next .here)))))) | exact .in1 | exact .next .in1 | exact .next (.next .in1) | exact .next (.next (.next .in1)) | exact .next (.next (.next (.next .in1))) | exact .in2 | exact .next .in2 | exact .next (.next .in2) | exact .next (.next (.next .in2)) | exact .next (.next (.next (.next .in2))) | exact .app .here | exact .app (.next .here) | exact .app (.next (.next .here)) | exact .app (.next (.next (.next .here))) | exact .app (.next (.next (.next (.next .here)))) | exact .app (.next (.next (.next (.next (.next .here))))) | exact .app (.next (.next (.next (.next (.next (.next .here)))))) | exact .app (.next (.next (.next (.next (.next (.next (.next .here))))))) | exact .app .in1 | exact .app .in2 | exact .app (.next .in1) | exact .next (.app .in1) | exact .next (.next (.app .in1)) | exact .next (.app .here) | exact .next (.next (.app .here)) | exact .next (.next (.next (.app .here))) | exact .next (.next (.next (.next (.app .here))))) rfl ⟨_, rfl, rfl, rfl⟩ rfl rfl Try.underlying27 rfl rfl (by rfl) ?_
  refine G.moveI rfl ⟨_, rfl, rfl, rfl⟩ rfl rfl rfl ?_
  refine G.call E37 rfl rfl ⟨_, rfl, rfl, rfl⟩ rfl rfl (containsN_spec W0 _ a c ids (hr W0 _) (by omega) id) rfl ?_
  rintro e L2 ⟨rfl, rfl⟩
  first | refine G.pickT rfl trivial rfl rfl rfl rfl ?_ | refine G.pickF rfl trivial rfl rfl rfl rfl ?_
  refine G.assignB rfl trivial rfl rfl rfl ?_
  refine G.nil ?_
  refine C.ret ?_
  -- end 
  exact ⟨rfl, _, Res.of (rs := [.tmp 4]) rfl rfl, rfl, rfl⟩
theorem tis_spec (L : List Seg) (ids : List Int) (ls : List One) (g : Int → List Int) (N : Nat) (s : Seg) (h : TxIs bt ids ls g N s) (hl : ids.length ≤ 1000) (id : Int) : FnS Try.prog W0 19 #[.pointer (some ⟨bt, 0, none⟩), .int .i64 id] (s :: L) (fun e L' => L' = s :: L ∧ e = .returned (.bool (decide (id ∈ ids)))) := by
  obtain ⟨vi, si, bk, l1, l2, bw, w1, w2, w3, hv, hk, hw, rfl⟩ := h
  exact FnS.read (tis_open W0 bt (l1 :: l2 :: w1 :: w2 :: w3 :: L) vi (.pointer (some ⟨bk, 0, none⟩)) (.pointer (some ⟨bw, 0, none⟩)) ids si hv hl id) (by simp)
theorem tlist_spec (L : List Seg) (ids : List Int) (ls : List One) (g : Int → List Int) (N : Nat) (s : Seg) (h : TxIs bt ids ls g N s) (hl : ids.length ≤ 1000) : FnS Try.prog W0 18 #[.pointer (some ⟨bt, 0, none⟩)] (s :: L) (fun e L' => ∃ a c so, OwnS (.slice a ids.length c) ids.length (ids.map (Value.int .i64)) 2 1 so ∧ L' = so :: s :: L ∧ e = .returned (.slice a ids.length c)) := by
  obtain ⟨vi, si, bk, l1, l2, bw, w1, w2, w3, hv, hk, hw, rfl⟩ := h
  obtain ⟨a, c, rfl, hr⟩ := hv.form
  refine FnS.perm (L' := si :: [(bt, .row [.slice a ids.length c, .pointer (some ⟨bk, 0, none⟩), .pointer (some ⟨bw, 0, none⟩)] 54 3)] :: l1 :: l2 :: w1 :: w2 :: w3 :: L) ?_ (by simp)
  refine FnS.of (args := [.pointer (some ⟨bt, 0, none⟩)]) Try.func18 rfl rfl ?_
  refine C.seq ?_
  refine C.region ?_
  refine G.assignS rfl trivial rfl rfl rfl ?_
  refine G.nil ?_
  refine C.seq ?_
  refine C.seq ?_
  refine C.region ?_
  refine G.moveP rfl trivial rfl rfl rfl ?_
  refine G.ptrEq rfl trivial rfl rfl Try.underlying24 rfl rfl ?_
  refine G.nil ?_
  refine C.condF rfl ?_
  refine C.skip ?_
  refine C.seq ?_
  refine C.region ?_
  refine G.moveP rfl trivial rfl rfl rfl ?_
  first | refine G.nilCheckP rfl trivial rfl rfl rfl ?_ | refine G.nilCheckF rfl trivial rfl rfl rfl ?_
  refine G.fieldAddr rfl trivial rfl rfl Try.underlying54 rfl I27 rfl rfl ?_
  refine G.loadAt (by first | exact .here | exact .next .here | exact .next (.next .here) | exact .next (.next (.next .here)) | exact .next (.next (.next (.next .here))) | exact .next (.next (.next (.next (.next .here)))) | exact .next (.next (.next (.next (.next (.next .here))))) | exact .next (.next (.next (.next (.next (.next (.next .here)))))) | exact .in1 | exact .next .in1 | exact .next (.next .in1) | exact .next (.next (.next .in1)) | exact .next (.next (.next (.next .in1))) | exact .in2 | exact .next .in2 | exact .next (.next .in2) | exact .next (.next (.next .in2)) | exact .next (.next (.next (.next .in2))) | exact .app .here | exact .app (.next .here) | exact .app (.next (.next .here)) | exact .app (.next (.next (.next .here))) | exact .app (.next (.next (.next (.next .here)))) | exact .app (.next (.next (.next (.next (.next .here))))) | exact .app (.next (.next (.next (.next (.next (.next .here)))))) | exact .app (.next (.next (.next (.next (.next (.next (.next .here))))))) | exact .app .in1 | exact .app .in2 | exact .app (.next .in1) | exact .next (.app .in1) | exact .next (.next (.app .in1)) | exact .next (.app .here) | exact .next (.next (.app .here)) | exact .next (.next (.next (.app .here))) | exact .next (.next (.next (.next (.app .here))))) rfl trivial rfl rfl Try.underlying27 rfl rfl (by rfl) ?_
  refine G.call E36 rfl rfl trivial rfl rfl (clone_spec W0 _ a c ids (hr W0 _) (by omega)) rfl ?_
  rintro e L2 ⟨v9, s9, hv9, rfl, rfl⟩
  obtain ⟨a9, c9, rfl, _⟩ := hv9.form
  refine G.assignS rfl trivial rfl rfl rfl ?_
  refine G.nil ?_
  refine C.less (L' := s9 :: (si ++ ([(bt, .row [.slice a ids.length c, .pointer (some ⟨bk, 0, none⟩), .pointer (some ⟨bw, 0, none⟩)] 54 3)] ++ (l1 ++ (l2 ++ (w1 ++ (w2 ++ w3)))))) :: L) (fun _ h => h.of_flat (by simp)) ?_
  refine C.ret ?_
  -- end 
  exact ⟨rfl, _, Res.of (rs := [.tmp 2]) rfl rfl, a9, c9, s9, hv9, rfl, rfl⟩
theorem tbegin_spec (L : List Seg) (ids : List Int) (ls : List One) (g : Int → List Int) (N : Nat) (s : Seg) (h : TxIs bt ids ls g N s) (hup : ids.Pairwise (· < ·)) (hl : ids.length ≤ 1000) (id : Int) : FnS Try.prog W0 11 #[.pointer (some ⟨bt, 0, none⟩), .int .i64 id] (s :: L) (fun e L' => ∃ s', TxIs bt (if beginC ids id = 0 then insL ids id else ids) ls g N s' ∧ L' = s' :: L ∧ e = .returned (.int .i64 (beginC ids id))) := by
  have hs := h
  obtain ⟨vi, si, bk, l1, l2, bw, w1, w2, w3, hv, hk, hw, rfl⟩ := h
  obtain ⟨a, c, rfl, hr⟩ := hv.form
  refine FnS.perm (L' := si :: [(bt, .row [.slice a ids.length c, .pointer (some ⟨bk, 0, none⟩), .pointer (some ⟨bw, 0, none⟩)] 54 3)] :: l1 :: l2 :: w1 :: w2 :: w3 :: L) ?_ (by simp)
  refine FnS.of (args := [.pointer (some ⟨bt, 0, none⟩), .int .i64 id]) Try.func11 rfl rfl ?_
  refine C.seq ?_
  refine C.region ?_
  refine G.assignI rfl trivial rfl rfl rfl ?_
  refine G.nil ?_
  refine C.seq ?_
  refine C.block ?_
  refine C.seq ?_
  refine C.region ?_
  refine G.moveP rfl trivial rfl rfl rfl ?_
  refine G.ptrEq rfl trivial rfl rfl Try.underlying24 rfl rfl ?_
  refine G.assignB rfl trivial rfl rfl rfl ?_
  refine G.nil ?_
  refine C.condF rfl ?_
  refine C.seq ?_
  refine C.region ?_
  refine G.moveI rfl trivial rfl rfl rfl ?_
  refine G.bin rfl trivial rfl rfl rfl rfl rfl ?_
  refine G.moveB rfl trivial rfl rfl rfl ?_
  refine G.fork (t := 11) _ rfl ?_ ?_
  · intro hg11
    refine G.skip rfl rfl rfl rfl rfl rfl ?_
    refine G.skip rfl rfl rfl rfl rfl rfl ?_
    first | refine G.pickT rfl trivial rfl rfl rfl rfl ?_ | refine G.pickF rfl trivial rfl rfl rfl rfl ?_
    refine G.assignB rfl trivial rfl rfl rfl ?_
    refine G.nil ?_
    refine C.condT rfl ?_
    refine C.seq ?_
    refine C.region ?_
    refine G.assignI rfl trivial rfl rfl rfl ?_
    refine G.nil ?_
    refine C.less (L' := (si ++ ([(bt, .row [.slice a ids.length c, .pointer (some ⟨bk, 0, none⟩), .pointer (some ⟨bw, 0, none⟩)] 54 3)] ++ (l1 ++ (l2 ++ (w1 ++ (w2 ++ w3)))))) :: L) (fun _ h => h.of_flat (by simp)) ?_
    refine C.ret ?_
    -- end g11T
    have hb : beginC ids id = 1 := by unfold beginC; rw [if_pos (.inl hg11)]
    rw [hb, if_neg (by decide)]
    exact ⟨rfl, _, Res.of (rs := [.tmp 4]) rfl rfl, _, hs, rfl, rfl⟩
  · intro hg11
    refine G.moveI rfl ⟨_, rfl, rfl, rfl⟩ rfl rfl rfl ?_
    refine G.bin rfl ⟨_, rfl, rfl, rfl⟩ rfl rfl rfl rfl rfl ?_
    first | refine G.pickT rfl trivial rfl rfl rfl rfl ?_ | refine G.pickF rfl trivial rfl rfl rfl rfl ?_
    refine G.assignB rfl trivial rfl rfl rfl ?_
    refine G.nil ?_
    refine C.cond _ rfl ?_ ?_
    · intro hc1
      refine C.seq ?_
      refine C.region ?_
      refine G.assignI rfl trivial rfl rfl rfl ?_
      refine G.nil ?_
      refine C.less (L' := (si ++ ([(bt, .row [.slice a ids.length c, .pointer (some ⟨bk, 0, none⟩), .pointer (some ⟨bw, 0, none⟩)] 54 3)] ++ (l1 ++ (l2 ++ (w1 ++ (w2 ++ w3)))))) :: L) (fun _ h => h.of_flat (by simp)) ?_
      refine C.ret ?_
      -- end g11Fc1T
      have hb : beginC ids id = 1 := by unfold beginC; rw [if_pos (.inr hc1)]
      rw [hb, if_neg (by decide)]
      exact ⟨rfl, _, Res.of (rs := [.tmp 4]) rfl rfl, _, hs, rfl, rfl⟩
    · intro hc1
      refine C.seq ?_
      refine C.region ?_
      refine G.moveP rfl trivial rfl rfl rfl ?_
      refine G.moveI rfl trivial rfl rfl rfl ?_
      refine G.call E19 rfl rfl trivial rfl rfl (tis_open W0 bt _ _ _ _ ids si hv hl id) rfl ?_
      rintro e L2 ⟨rfl, rfl⟩
      refine G.assignB rfl trivial rfl rfl rfl ?_
      refine G.nil ?_
      refine C.cond _ rfl ?_ ?_
      · intro hc2
        refine C.seq ?_
        refine C.region ?_
        refine G.assignI rfl trivial rfl rfl rfl ?_
        refine G.nil ?_
        refine C.less (L' := (si ++ ([(bt, .row [.slice a ids.length c, .pointer (some ⟨bk, 0, none⟩), .pointer (some ⟨bw, 0, none⟩)] 54 3)] ++ (l1 ++ (l2 ++ (w1 ++ (w2 ++ w3)))))) :: L) (fun _ h => h.of_flat (by simp)) ?_
        refine C.ret ?_
        -- end g11Fc1Fc2T
        have hb : beginC ids id = 7 := by unfold beginC; rw [if_neg (by omega), if_pos hc2]
        rw [hb, if_neg (by decide)]
        exact ⟨rfl, _, Res.of (rs := [.tmp 4]) rfl rfl, _, hs, rfl, rfl⟩
      · intro hc2
        refine C.seq ?_
        refine C.region ?_
        refine G.moveP rfl trivial rfl rfl rfl ?_
        first | refine G.nilCheckP rfl trivial rfl rfl rfl ?_ | refine G.nilCheckF rfl trivial rfl rfl rfl ?_
        refine G.fieldAddr rfl trivial rfl rfl Try.underlying54 rfl I27 rfl rfl ?_
        refine G.loadAt (by first | exact .here | exact .next .here | exact .next (.next .here) | exact .next (.next (.next .here)) | exact .next (.next (.next (.next .here))) | exact .next (.next (.next (.next (.next .here)))) | exact .next (.next (.next (.next (.next (.next .here))))) | exact .next (.next (.next (.next (.next (.next (.next .here)))))) | exact .in1 | exact .next .in1 | exact .next (.next .in1) | exact .next (.next (.next .in1)) | exact .next (.next (.next (.next .in1))) | exact .in2 | exact .next .in2 | exact .next (.next .in2) | exact .next (.next (.next .in2)) | exact .next (.next (.next (.next .in2))) | exact .app .here | exact .app (.next .here) | exact .app (.next (.next .here)) | exact .app (.next (.next (.next .here))) | exact .app (.next (.next (.next (.next .here)))) | exact .app (.next (.next (.next (.next (.next .here))))) | exact .app (.next (.next (.next (.next (.next (.next .here)))))) | exact .app (.next (.next (.next (.next (.next (.next (.next .here))))))) | exact .app .in1 | exact .app .in2 | exact .app (.next .in1) | exact .next (.app .in1) | exact .next (.next (.app .in1)) | exact .next (.app .here) | exact .next (.next (.app .here)) | exact .next (.next (.next (.app .here))) | exact .next (.next (.next (.next (.app .here))))) rfl trivial rfl rfl Try.underlying27 rfl rfl (by rfl) ?_
        refine G.lenSlice rfl trivial rfl rfl Try.underlying27 rfl ?_
        refine G.bin rfl trivial rfl rfl rfl rfl rfl ?_
        refine G.assignB rfl trivial rfl rfl rfl ?_
        refine G.nil ?_
        refine C.cond _ rfl ?_ ?_
        · intro hc3
          refine C.seq ?_
          refine C.region ?_
          refine G.assignI rfl trivial rfl rfl rfl ?_
          refine G.nil ?_
          refine C.less (L' := (si ++ ([(bt, .row [.slice a ids.length c, .pointer (some ⟨bk, 0, none⟩), .pointer (some ⟨bw, 0, none⟩)] 54 3)] ++ (l1 ++ (l2 ++ (w1 ++ (w2 ++ w3)))))) :: L) (fun _ h => h.of_flat (by simp)) ?_
          refine C.ret ?_
          -- end g11Fc1Fc2Fc3T
          have hb : beginC ids id = 4 := by unfold beginC; rw [if_neg (by omega), if_neg hc2, if_pos (by omega)]
          rw [hb, if_neg (by decide)]
          exact ⟨rfl, _, Res.of (rs := [.tmp 4]) rfl rfl, _, hs, rfl, rfl⟩
        · intro hc3
          refine C.skip ?_
          refine C.seq ?_
          refine C.region ?_
          refine G.moveP rfl trivial rfl rfl rfl ?_
          refine G.moveP rfl trivial rfl rfl rfl ?_
          first | refine G.nilCheckP rfl trivial rfl rfl rfl ?_ | refine G.nilCheckF rfl trivial rfl rfl rfl ?_
          refine G.fieldAddr rfl trivial rfl rfl Try.underlying54 rfl I27 rfl rfl ?_
          refine G.loadAt (by first | exact .here | exact .next .here | exact .next (.next .here) | exact .next (.next (.next .here)) | exact .next (.next (.next (.next .here))) | exact .next (.next (.next (.next (.next .here)))) | exact .next (.next (.next (.next (.next (.next .here))))) | exact .next (.next (.next (.next (.next (.next (.next .here)))))) | exact .in1 | exact .next .in1 | exact .next (.next .in1) | exact .next (.next (.next .in1)) | exact .next (.next (.next (.next .in1))) | exact .in2 | exact .next .in2 | exact .next (.next .in2) | exact .next (.next (.next .in2)) | exact .next (.next (.next (.next .in2))) | exact .app .here | exact .app (.next .here) | exact .app (.next (.next .here)) | exact .app (.next (.next (.next .here))) | exact .app (.next (.next (.next (.next .here)))) | exact .app (.next (.next (.next (.next (.next .here))))) | exact .app (.next (.next (.next (.next (.next (.next .here)))))) | exact .app (.next (.next (.next (.next (.next (.next (.next .here))))))) | exact .app .in1 | exact .app .in2 | exact .app (.next .in1) | exact .next (.app .in1) | exact .next (.next (.app .in1)) | exact .next (.app .here) | exact .next (.next (.app .here)) | exact .next (.next (.next (.app .here))) | exact .next (.next (.next (.next (.app .here))))) rfl trivial rfl rfl Try.underlying27 rfl rfl (by rfl) ?_
          refine G.moveI rfl trivial rfl rfl rfl ?_
          refine G.buildSliceL (cs := [.int .i64 id]) (zs := [(.int .i64 0)]) rfl trivial rfl rfl Try.underlying27 I2 rfl (by kernel_rfl) rfl rfl ?_
          intro b32
          refine G.less (fun _ h => h.perm2) ?_
          refine G.append hv rfl trivial rfl rfl Try.underlying27 Try.underlying27 I2 rfl (by decide) rfl rfl (by decide) (Rd.row0 (.next .here)) rfl (by simp [cellsOk]) (by omega) ?_
          intro v33 s33 hv33
          obtain ⟨a33, c33, rfl, _⟩ := hv33.form
          first | refine G.nilCheckP rfl trivial rfl rfl rfl ?_ | refine G.nilCheckF rfl trivial rfl rfl rfl ?_
          refine G.fieldAddr rfl trivial rfl rfl Try.underlying54 rfl I27 rfl rfl ?_
          refine G.store (v := .slice _ _ _) (by first | exact .here | exact .next .here | exact .next (.next .here) | exact .next (.next (.next .here)) | exact .next (.next (.next (.next .here))) | exact .next (.next (.next (.next (.next .here)))) | exact .next (.next (.next (.next (.next (.next .here))))) | exact .next (.next (.next (.next (.next (.next (.next .here)))))) | exact .in1 | exact .next .in1 | exact .next (.next .in1) | exact .next (.next (.next .in1)) | exact .next (.next (.next (.next .in1))) | exact .in2 | exact .next .in2 | exact .next (.next .in2) | exact .next (.next (.next .in2)) | exact .next (.next (.next (.next .in2))) | exact .app .here | exact .app (.next .here) | exact .app (.next (.next .here)) | exact .app (.next (.next (.next .here))) | exact .app (.next (.next (.next (.next .here)))) | exact .app (.next (.next (.next (.next (.next .here))))) | exact .app (.next (.next (.next (.next (.next (.next .here)))))) | exact .app (.next (.next (.next (.next (.next (.next (.next .here))))))) | exact .app .in1 | exact .app .in2 | exact .app (.next .in1) | exact .next (.app .in1) | exact .next (.next (.app .in1)) | exact .next (.app .here) | exact .next (.next (.app .here)) | exact .next (.next (.next (.app .here))) | exact .next (.next (.next (.next (.app .here))))) rfl trivial rfl I27 rfl rfl rfl (by first | decide | (simp; done) | (simp; omega)) _ (by first | (simp only [List.set_cons_succ, List.set_cons_zero]; done) | (simp only [List.set_cons_succ, List.set_cons_zero]; exact rfl) | exact rfl) ?_
          refine G.nil ?_
          refine C.seq ?_
          refine C.region ?_
          refine G.moveP rfl trivial rfl rfl rfl ?_
          first | refine G.nilCheckP rfl trivial rfl rfl rfl ?_ | refine G.nilCheckF rfl trivial rfl rfl rfl ?_
          refine G.fieldAddr rfl trivial rfl rfl Try.underlying54 rfl I27 rfl rfl ?_
          refine G.loadAt (by first | exact .here | exact .next .here | exact .next (.next .here) | exact .next (.next (.next .here)) | exact .next (.next (.next (.next .here))) | exact .next (.next (.next (.next (.next .here)))) | exact .next (.next (.next (.next (.next (.next .here))))) | exact .next (.next (.next (.next (.next (.next (.next .here)))))) | exact .in1 | exact .next .in1 | exact .next (.next .in1) | exact .next (.next (.next .in1)) | exact .next (.next (.next (.next .in1))) | exact .in2 | exact .next .in2 | exact .next (.next .in2) | exact .next (.next (.next .in2)) | exact .next (.next (.next (.next .in2))) | exact .app .here | exact .app (.next .here) | exact .app (.next (.next .here)) | exact .app (.next (.next (.next .here))) | exact .app (.next (.next (.next (.next .here)))) | exact .app (.next (.next (.next (.next (.next .here))))) | exact .app (.next (.next (.next (.next (.next (.next .here)))))) | exact .app (.next (.next (.next (.next (.next (.next (.next .here))))))) | exact .app .in1 | exact .app .in2 | exact .app (.next .in1) | exact .next (.app .in1) | exact .next (.next (.app .in1)) | exact .next (.app .here) | exact .next (.next (.app .here)) | exact .next (.next (.next (.app .here))) | exact .next (.next (.next (.next (.app .here))))) rfl trivial rfl rfl Try.underlying27 rfl rfl (by rfl) ?_
          refine G.call E23 rfl rfl trivial rfl rfl (sortO_spec W0 _ (.slice a33 (ids.length + 1) c33) (ids ++ [id]) s33 (by simpa using hv33) (by simp; omega)) rfl ?_
          rintro e L2 ⟨s40, hv40, rfl, rfl⟩
          rw [sort_ins hup hc2] at hv40
          refine G.nil ?_
          refine C.seq ?_
          refine C.region ?_
          refine G.assignI rfl trivial rfl rfl rfl ?_
          refine G.nil ?_
          have hil : (insL ids id).length = ids.length + 1 := by rw [← sort_ins hup hc2, sortL_length]; simp
          refine C.less (L' := (s40 ++ ([(bt, .row [.slice a33 (ids.length + 1) c33, .pointer (some ⟨bk, 0, none⟩), .pointer (some ⟨bw, 0, none⟩)] 54 3)] ++ (l1 ++ (l2 ++ (w1 ++ (w2 ++ w3)))))) :: L) (fun _ h => h.skip1.of_flat (by simp)) ?_
          refine C.ret ?_
          -- end g11Fc1Fc2Fc3F
          have hb : beginC ids id = 0 := by unfold beginC; rw [if_neg (by omega), if_neg hc2, if_neg (by omega)]
          rw [hb, if_pos rfl]
          exact ⟨rfl, _, Res.of (rs := [.tmp 4]) rfl rfl, _, ⟨_, _, bk, l1, l2, bw, w1, w2, w3, hv40, hk, hw, rfl⟩, rfl, rfl⟩
end txn
end Go.Proofs.Ytomiidlbfcfpiaa
