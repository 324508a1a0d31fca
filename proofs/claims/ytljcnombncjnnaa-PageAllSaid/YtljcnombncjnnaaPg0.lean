/-
  A write to the device in one, pages walked.
-/
import Derived.Test.YtljcnombncjnnaaDv4
namespace Go.Proofs.Ytljcnombncjnnaa
open Go Go.SL Go.RowKit

def wr (d : Dv) (i : Int) (b : List UInt8) : Dv × Int :=
  if d.isDead then (d, 5) else if ¬ (0 ≤ i ∧ i < d.l.length) then (d, 3) else if 64 < b.length then (d, 1) else (d.put i.toNat b, 0)
theorem wr_ok {d : Dv} (h : d.ok) (i : Int) (b : List UInt8) : (wr d i b).1.ok := by
  unfold wr
  split
  · exact h
  · split
    · exact h
    · split
      · exact h
      · exact Dv.put_ok h (by simp_all) (by omega)
theorem wr_length (d : Dv) (i : Int) (b : List UInt8) : (wr d i b).1.l.length = d.l.length := by
  unfold wr
  split
  · rfl
  · split
    · rfl
    · split
      · rfl
      · simp [Dv.put]
section dev
variable (W0 : World) (S L0 : List Seg) (bd bl : Nat) (d : Dv)
theorem write_spec (hd : d.ok) (i : Int) (a : Option Addr) (m c : Nat) (b : List UInt8) (hm : m = b.length) (hr : ∀ d', Rd W0 (S ++ (devSeg bd bl d' :: L0)) a (bytesV b)) :
    FnS Try.prog W0 12 #[ptr bd, .int .i64 i, .slice a m c] (S ++ (devSeg bd bl d :: L0)) (fun e L' => L' = S ++ (devSeg bd bl (wr d i b).1 :: L0) ∧ e = .returned (.int .i64 (wr d i b).2)) := by
  subst hm
  unfold wr
  by_cases h1 : d.isDead = true
  · rw [if_pos h1]
    exact write_dead W0 S L0 bd bl d h1 i a b.length c
  · rw [if_neg h1]
    have h1' : d.isDead = false := by simpa using h1
    by_cases h2 : 0 ≤ i ∧ i < d.l.length
    · obtain ⟨k, rfl⟩ : ∃ k : Nat, i = k := ⟨i.toNat, by omega⟩
      rw [if_neg (by simpa using h2)]
      by_cases h3 : 64 < b.length
      · rw [if_pos h3]
        exact write_form W0 S L0 bd bl d h1' k (by omega) a b.length c h3
      · rw [if_neg h3]
        exact write_ok W0 S L0 bd bl d hd h1' k (by omega) a c b (by omega) (hr _)
    · rw [if_pos h2]
      exact write_out W0 S L0 bd bl d h1' i h2 a b.length c
theorem may_spec (L : List Seg) (n : Int) : FnS Try.prog W0 16 #[.int .i64 n] L (fun e L' => L' = L ∧ e = .returned (.bool (decide (0 ≤ n ∧ n < 96)))) := by
  refine FnS.of (args := [.int .i64 n]) Try.func16 rfl rfl ?_
  refine C.seq ?_
  refine C.region ?_
  refine G.assignB rfl trivial rfl rfl rfl ?_
  refine G.nil ?_
  refine C.seq ?_
  refine C.region ?_
  refine G.moveI rfl trivial rfl rfl rfl ?_
  refine G.bin rfl trivial rfl rfl rfl rfl rfl ?_
  refine G.moveB rfl trivial rfl rfl rfl ?_
  refine G.fork (t := 5) _ rfl ?_ ?_
  · intro hg5
    refine G.moveI rfl ⟨_, rfl, rfl, rfl⟩ rfl rfl rfl ?_
    refine G.bin rfl ⟨_, rfl, rfl, rfl⟩ rfl rfl rfl rfl rfl ?_
    first | refine G.pickT rfl trivial rfl rfl rfl rfl ?_ | refine G.pickF rfl trivial rfl rfl rfl rfl ?_
    refine G.assignB rfl trivial rfl rfl rfl ?_
    refine G.nil ?_
    refine C.ret ?_
    -- end g5T
    exact ⟨rfl, _, Res.of (rs := [.tmp 2]) rfl rfl, rfl, by congr 2; show Value.bool (decide (n < 96)) = _; congr 1; rw [decide_eq_decide]; omega⟩
  · intro hg5
    refine G.skip rfl rfl rfl rfl rfl rfl ?_
    refine G.skip rfl rfl rfl rfl rfl rfl ?_
    first | refine G.pickT rfl trivial rfl rfl rfl rfl ?_ | refine G.pickF rfl trivial rfl rfl rfl rfl ?_
    refine G.assignB rfl trivial rfl rfl rfl ?_
    refine G.nil ?_
    refine C.ret ?_
    -- end g5F
    exact ⟨rfl, _, Res.of (rs := [.tmp 2]) rfl rfl, rfl, by rw [show decide (0 ≤ n ∧ n < 96) = false from decide_eq_false (by omega)]; rfl⟩
def part (b : List UInt8) (k : Nat) : List UInt8 := (b.drop (64 * k)).take 64
def pageW (no : Int) (b : List UInt8) : Nat → Dv → Dv × Int
  | 0, d => (d, 0)
  | k + 1, d => if (wr d (2 + 4 * no + (3 - k : Nat)) (part b (3 - k))).2 = 0 then pageW no b k (wr d (2 + 4 * no + (3 - k : Nat)) (part b (3 - k))).1 else wr d (2 + 4 * no + (3 - k : Nat)) (part b (3 - k))
theorem pageW_ok (no : Int) (b : List UInt8) : ∀ (k : Nat) (d : Dv), d.ok → (pageW no b k d).1.ok
  | 0, d, h => h
  | k + 1, d, h => by
    unfold pageW
    split
    · exact pageW_ok no b k _ (wr_ok h _ _)
    · exact wr_ok h _ _
theorem pageW_length (no : Int) (b : List UInt8) : ∀ (k : Nat) (d : Dv), (pageW no b k d).1.l.length = d.l.length
  | 0, d => rfl
  | k + 1, d => by
    unfold pageW
    split
    · rw [pageW_length no b k, wr_length]
    · exact wr_length _ _ _
theorem page_write (hd : d.ok) (no : Int) (hno : 0 ≤ no ∧ no < 96) (a : Option Addr) (c : Nat) (b : List UInt8) (hb : b.length = 256) (hc : 256 ≤ c) (hr : ∀ d', Rd W0 (S ++ (devSeg bd bl d' :: L0)) a (bytesV b)) :
    FnS Try.prog W0 9 #[ptr bd, .int .i64 no, .slice a 256 c] (S ++ (devSeg bd bl d :: L0)) (fun e L' => L' = S ++ (devSeg bd bl (pageW no b 4 d).1 :: L0) ∧ e = .returned (.int .i64 (pageW no b 4 d).2)) := by
  refine FnS.of (args := [ptr bd, .int .i64 no, .slice a 256 c]) Try.func9 rfl rfl ?_
  refine C.seq ?_
  refine C.region ?_
  refine G.assignI rfl trivial rfl rfl rfl ?_
  refine G.nil ?_
  refine C.seq ?_
  refine C.block ?_
  refine C.seq ?_
  refine C.region ?_
  refine G.moveI rfl trivial rfl rfl rfl ?_
  refine G.call E16 rfl rfl trivial rfl rfl (may_spec W0 _ no) rfl ?_
  rintro e L2 ⟨rfl, rfl⟩
  rw [decide_eq_true hno]
  first | refine G.notD rfl trivial rfl rfl rfl ?_ | refine G.not rfl trivial rfl rfl rfl ?_
  refine G.assignB rfl trivial rfl rfl rfl ?_
  refine G.nil ?_
  refine C.condF rfl ?_
  refine C.seq ?_
  refine C.region ?_
  refine G.moveS rfl trivial rfl rfl rfl ?_
  refine G.lenSlice rfl trivial rfl rfl Try.underlying23 rfl ?_
  refine G.bin rfl trivial rfl rfl rfl rfl rfl ?_
  refine G.assignB rfl trivial rfl rfl rfl ?_
  refine G.nil ?_
  refine C.no rfl (by decide) ?_
  refine C.skip ?_
  refine C.seq ?_
  refine C.seq ?_
  refine C.region ?_
  refine G.moveI rfl trivial rfl rfl rfl ?_
  refine G.nil ?_
  refine C.block ?_
  refine C.loop (fun m F D' L' => ∃ (k : Nat) (d1 : Dv), k ≤ 4 ∧ d1.ok ∧ pageW no b 4 d = pageW no b k d1 ∧ m = k ∧ F 17 = .int .i64 (4 - k : Nat) ∧ F 0 = ptr bd ∧ F 1 = .int .i64 no ∧ F 2 = .slice a 256 c ∧ D' = [] ∧ S ++ (devSeg bd bl d1 :: L0) = L') ⟨_, ⟨4, d, by omega, hd, rfl, rfl, rfl, rfl, rfl, rfl, rfl, rfl⟩⟩ ?_
  rintro m F D' L' ⟨k, d1, hk, hd1, hpw, rfl, h17, h0', h1', h2', rfl, rfl⟩
  refine C.fix (d := 17) h17 ?_
  refine C.fix (d := 0) h0' ?_
  refine C.fix (d := 1) h1' ?_
  refine C.fix (d := 2) h2' ?_
  refine C.seq ?_
  refine C.region ?_
  refine G.bin rfl trivial rfl rfl rfl rfl rfl ?_
  refine G.nil ?_
  refine C.seq ?_
  refine C.cond _ rfl ?_ ?_
  · intro hc2
    obtain ⟨j, rfl⟩ : ∃ j, m = j + 1 := ⟨m - 1, by omega⟩
    have hj : 4 - (j + 1) = 3 - j := by omega
    rw [hj]
    have hj3 : (3 - j : Nat) ≤ 3 := by omega
    refine C.skip ?_
    refine C.seq ?_
    refine C.block ?_
    refine C.seq ?_
    refine C.region ?_
    refine G.moveI rfl trivial rfl rfl rfl ?_
    refine G.assignI rfl trivial rfl rfl rfl ?_
    refine G.nil ?_
    refine C.seq ?_
    refine C.region ?_
    refine G.moveP rfl trivial rfl rfl rfl ?_
    refine G.moveI rfl trivial rfl rfl rfl ?_
    refine G.mul rfl trivial rfl rfl rfl rfl (by omega) ?_
    refine G.add rfl trivial rfl rfl rfl rfl (by omega) ?_
    refine G.moveI rfl trivial rfl rfl rfl ?_
    refine G.add rfl trivial rfl rfl rfl rfl (by omega) ?_
    refine G.fix (d := 25) (v := .int .i64 (2 + 4 * no + (3 - j : Nat))) rfl ?_
    refine G.moveS rfl trivial rfl rfl rfl ?_
    refine G.moveI rfl trivial rfl rfl rfl ?_
    refine G.mul rfl trivial rfl rfl rfl rfl (by omega) ?_
    refine G.moveI rfl trivial rfl rfl rfl ?_
    refine G.add rfl trivial rfl rfl rfl rfl (by omega) ?_
    refine G.mul rfl trivial rfl rfl rfl rfl (by omega) ?_
    refine G.sliceLH rfl trivial rfl rfl Try.underlying23 I5 rfl rfl rfl (by omega) ?_
    refine G.call E12 rfl rfl trivial rfl rfl (write_spec W0 S L0 bd bl d1 hd1 _ _ _ _ (part b (3 - j)) (by simp [part, hb]; omega) (fun d2 => (by have := ((hr d2).cut (n := 256) (cap := c) (l := 64 * (3 - j)) (sz := 1) (by simp [hb]) hc).take (n := 64); simp only [bytesV_drop, bytesV_take, Nat.mul_one] at this; rw [show (64 * ((3 - j : Nat) : Int)).toNat = 64 * (3 - j) by omega]; exact this))) rfl ?_
    rintro e L2 ⟨rfl, rfl⟩
    refine G.assignI rfl trivial rfl rfl rfl ?_
    refine G.nil ?_
    refine C.seq ?_
    refine C.region ?_
    refine G.moveI rfl trivial rfl rfl rfl ?_
    refine G.bin rfl trivial rfl rfl rfl rfl rfl ?_
    refine G.nil ?_
    refine C.cond _ rfl ?_ ?_
    · intro hc3
      have hp2 : pageW no b (j + 1) d1 = wr d1 (2 + 4 * no + (3 - j : Nat)) (part b (3 - j)) := by
        unfold pageW
        rw [if_neg hc3]
      rw [hp2] at hpw
      refine C.seq ?_
      refine C.region ?_
      refine G.moveI rfl trivial rfl rfl rfl ?_
      refine G.assignI rfl trivial rfl rfl rfl ?_
      refine G.nil ?_
      refine C.ret ?_
      -- end c2Tc3T
      exact ⟨rfl, _, Res.of (rs := [.tmp 6]) rfl rfl, by rw [hpw], by rw [hpw]; rfl⟩
    · intro hc3
      have hp2 : pageW no b (j + 1) d1 = pageW no b j (wr d1 (2 + 4 * no + (3 - j : Nat)) (part b (3 - j))).1 := by
        conv => lhs; unfold pageW
        rw [if_pos (by omega)]
      rw [hp2] at hpw
      refine C.skip ?_
      refine C.region ?_
      refine G.add rfl trivial rfl rfl rfl rfl (by omega) ?_
      refine G.moveI rfl trivial rfl rfl rfl ?_
      refine G.nil ?_
      exact ⟨j, by omega, j, _, by omega, wr_ok hd1 _ _, hpw, rfl, by show Value.int .i64 _ = _; congr 1; omega, rfl, rfl, rfl, rfl, rfl⟩
  · intro hc2
    obtain rfl : m = 0 := by omega
    refine C.exit ?_
    refine C.seq ?_
    refine C.region ?_
    refine G.assignI rfl trivial rfl rfl rfl ?_
    refine G.nil ?_
    refine C.ret ?_
    -- end c2F
    exact ⟨rfl, _, Res.of (rs := [.tmp 6]) rfl rfl, by rw [hpw]; rfl, by rw [hpw]; rfl⟩
theorem page_write_out (L : List Seg) (v : Value) (no : Int) (hno : ¬ (0 ≤ no ∧ no < 96)) (a : Option Addr) (m c : Nat) :
    FnS Try.prog W0 9 #[v, .int .i64 no, .slice a m c] L (fun e L' => L' = L ∧ e = .returned (.int .i64 3)) := by
  refine FnS.of (args := [v, .int .i64 no, .slice a m c]) Try.func9 rfl rfl ?_
  refine C.seq ?_
  refine C.region ?_
  refine G.assignI rfl trivial rfl rfl rfl ?_
  refine G.nil ?_
  refine C.seq ?_
  refine C.block ?_
  refine C.seq ?_
  refine C.region ?_
  refine G.moveI rfl trivial rfl rfl rfl ?_
  refine G.call E16 rfl rfl trivial rfl rfl (may_spec W0 _ no) rfl ?_
  rintro e L2 ⟨rfl, rfl⟩
  rw [decide_eq_false hno]
  first | refine G.notD rfl trivial rfl rfl rfl ?_ | refine G.not rfl trivial rfl rfl rfl ?_
  refine G.assignB rfl trivial rfl rfl rfl ?_
  refine G.nil ?_
  refine C.condT rfl ?_
  refine C.seq ?_
  refine C.region ?_
  refine G.assignI rfl trivial rfl rfl rfl ?_
  refine G.nil ?_
  refine C.ret ?_
  -- end 
  exact ⟨rfl, _, Res.of (rs := [.tmp 6]) rfl rfl, rfl, rfl⟩
theorem page_write_form (L : List Seg) (v : Value) (no : Int) (hno : 0 ≤ no ∧ no < 96) (a : Option Addr) (m c : Nat) (hm : m ≠ 256) :
    FnS Try.prog W0 9 #[v, .int .i64 no, .slice a m c] L (fun e L' => L' = L ∧ e = .returned (.int .i64 1)) := by
  refine FnS.of (args := [v, .int .i64 no, .slice a m c]) Try.func9 rfl rfl ?_
  refine C.seq ?_
  refine C.region ?_
  refine G.assignI rfl trivial rfl rfl rfl ?_
  refine G.nil ?_
  refine C.seq ?_
  refine C.block ?_
  refine C.seq ?_
  refine C.region ?_
  refine G.moveI rfl trivial rfl rfl rfl ?_
  refine G.call E16 rfl rfl trivial rfl rfl (may_spec W0 _ no) rfl ?_
  rintro e L2 ⟨rfl, rfl⟩
  rw [decide_eq_true hno]
  first | refine G.notD rfl trivial rfl rfl rfl ?_ | refine G.not rfl trivial rfl rfl rfl ?_
  refine G.assignB rfl trivial rfl rfl rfl ?_
  refine G.nil ?_
  refine C.condF rfl ?_
  refine C.seq ?_
  refine C.region ?_
  refine G.moveS rfl trivial rfl rfl rfl ?_
  refine G.lenSlice rfl trivial rfl rfl Try.underlying23 rfl ?_
  refine G.bin rfl trivial rfl rfl rfl rfl rfl ?_
  refine G.assignB rfl trivial rfl rfl rfl ?_
  refine G.nil ?_
  refine C.yes rfl (by omega) ?_
  refine C.seq ?_
  refine C.region ?_
  refine G.assignI rfl trivial rfl rfl rfl ?_
  refine G.nil ?_
  refine C.ret ?_
  -- end 
  exact ⟨rfl, _, Res.of (rs := [.tmp 6]) rfl rfl, rfl, rfl⟩

/-! ### A page is read -/
def pagePart (l : List Sec) (n i : Nat) : List UInt8 := ((l.drop (2 + 4 * n)).take i).flatMap Sec.now
def pageOf (d : Dv) (n : Nat) : List UInt8 := pagePart d.l n 4
theorem pagePart_succ {l : List Sec} {n i : Nat} (h : 2 + 4 * n + i < l.length) : pagePart l n (i + 1) = pagePart l n i ++ l[2 + 4 * n + i].now := by
  unfold pagePart
  rw [List.take_succ_eq_append_getElem (by simp; omega)]
  simp
theorem pagePart_length {l : List Sec} (h : ∀ s ∈ l, s.ok) {n : Nat} : ∀ {i : Nat}, 2 + 4 * n + i ≤ l.length → (pagePart l n i).length = 64 * i
  | 0, _ => rfl
  | i + 1, hi => by
    rw [pagePart_succ (by omega), List.length_append, pagePart_length h (by omega), (h _ (List.getElem_mem _)).1]
    omega
theorem page_read (hd : d.ok) (no : Nat) (hno : no < 96) (hl : 2 + 4 * no + 4 ≤ d.l.length) :
    FnS Try.prog W0 11 #[ptr bd, .int .i64 (no : Int)] (S ++ (devSeg bd bl d :: L0)) (fun e L' => ∃ v seg, OwnS v 256 (bytesV (pageOf d no)) 5 1 seg ∧ L' = seg :: (S ++ (devSeg bd bl d :: L0)) ∧ e = .returned (.tuple #[v, .int .i64 0])) := by
  refine FnS.of (args := [ptr bd, .int .i64 (no : Int)]) Try.func11 rfl rfl ?_
  refine C.seq ?_
  refine C.region ?_
  refine G.assignS rfl trivial rfl rfl rfl ?_
  refine G.assignI rfl trivial rfl rfl rfl ?_
  refine G.nil ?_
  refine C.seq ?_
  refine C.seq ?_
  refine C.region ?_
  refine G.moveI rfl trivial rfl rfl rfl ?_
  refine G.call E16 rfl rfl trivial rfl rfl (may_spec W0 _ no) rfl ?_
  rintro e L2 ⟨rfl, rfl⟩
  rw [show decide (0 ≤ (no : Int) ∧ (no : Int) < 96) = true from decide_eq_true (by omega)]
  first | refine G.notD rfl trivial rfl rfl rfl ?_ | refine G.not rfl trivial rfl rfl rfl ?_
  refine G.nil ?_
  refine C.condF rfl ?_
  refine C.skip ?_
  refine C.seq ?_
  refine C.region ?_
  refine G.assignS rfl trivial rfl rfl rfl ?_
  refine G.nil ?_
  refine C.seq ?_
  refine C.seq ?_
  refine C.region ?_
  refine G.moveI rfl trivial rfl rfl rfl ?_
  refine G.less (fun _ h => h.empty) ?_
  refine G.nil ?_
  refine C.block ?_
  refine C.loop (fun m F D' L' => ∃ (i : Nat) (a : Option Addr) (c : Nat) (seg : Seg), i ≤ 4 ∧ OwnS (.slice a (64 * i) c) (64 * i) (bytesV (pagePart d.l no i)) 5 1 seg ∧ m = 4 - i ∧ F 13 = .int .i64 i ∧ F 6 = .slice a (64 * i) c ∧ F 0 = ptr bd ∧ F 1 = .int .i64 no ∧ D' = [] ∧ seg :: (S ++ (devSeg bd bl d :: L0)) = L') ⟨_, ⟨0, none, 0, [], by omega, OwnS.nil _ _, rfl, rfl, rfl, rfl, rfl, rfl, rfl⟩⟩ ?_
  rintro m F D' L' ⟨i, a, c, seg, hi, hown, rfl, h13, h6, h0', h1', rfl, rfl⟩
  refine C.fix (d := 13) h13 ?_
  refine C.fix (d := 6) h6 ?_
  refine C.fix (d := 0) h0' ?_
  refine C.fix (d := 1) h1' ?_
  refine C.seq ?_
  refine C.region ?_
  refine G.bin rfl trivial rfl rfl rfl rfl rfl ?_
  refine G.nil ?_
  refine C.seq ?_
  refine C.cond _ rfl ?_ ?_
  · intro hc1
    have hlt : 2 + 4 * no + i < d.l.length := by omega
    have hs := hd.1 _ (List.getElem_mem hlt)
    refine C.skip ?_
    refine C.seq ?_
    refine C.block ?_
    refine C.seq ?_
    refine C.region ?_
    refine G.moveI rfl trivial rfl rfl rfl ?_
    refine G.assignI rfl trivial rfl rfl rfl ?_
    refine G.nil ?_
    refine C.seq ?_
    refine C.region ?_
    refine G.moveP rfl trivial rfl rfl rfl ?_
    refine G.moveI rfl trivial rfl rfl rfl ?_
    refine G.mul rfl trivial rfl rfl rfl rfl (by omega) ?_
    refine G.add rfl trivial rfl rfl rfl rfl (by omega) ?_
    refine G.moveI rfl trivial rfl rfl rfl ?_
    refine G.add rfl trivial rfl rfl rfl rfl (by omega) ?_
    refine G.fix (d := 22) (v := .int .i64 ((2 + 4 * no + i : Nat) : Int)) (by show Value.int .i64 _ = _; first | (congr 1; done) | (congr 1; omega)) ?_
    refine G.call E10 rfl rfl trivial rfl rfl (read_ok W0 (seg :: S) L0 bd bl d hd (2 + 4 * no + i) hlt) rfl ?_
    rintro e L2 ⟨v, seg2, hv2, rfl, rfl⟩
    obtain ⟨a23, c23, rfl, hr23⟩ := hv2.form
    refine G.moveU rfl trivial rfl rfl rfl ?_
    refine G.extractL rfl trivial rfl rfl rfl rfl ?_
    refine G.extractL rfl trivial rfl rfl rfl rfl ?_
    refine G.assignS rfl trivial rfl rfl rfl ?_
    refine G.assignI rfl trivial rfl rfl rfl ?_
    refine G.nil ?_
    refine C.seq ?_
    refine C.seq ?_
    refine C.region ?_
    refine G.moveI rfl trivial rfl rfl rfl ?_
    refine G.bin rfl trivial rfl rfl rfl rfl rfl ?_
    refine G.nil ?_
    refine C.no rfl (by simp) ?_
    refine C.skip ?_
    refine C.region ?_
    refine G.moveS rfl trivial rfl rfl rfl ?_
    refine G.moveS rfl trivial rfl rfl rfl ?_
    refine G.less (L' := seg :: seg2 :: (S ++ (devSeg bd bl d :: L0))) (fun _ h => h.perm2) ?_
    refine G.append hown rfl trivial rfl rfl Try.underlying23 Try.underlying23 I5 rfl (by decide) rfl rfl (by decide) (hr23 W0 _).cons (by simp [hs.1]) bytesV_ok (by omega) ?_
    intro v seg3 hv
    rw [show 64 * i + 64 = 64 * (i + 1) by omega] at hv
    obtain ⟨a31, c31, rfl, _⟩ := hv.form
    refine G.less (fun _ h => h.skip1) ?_
    refine G.assignS rfl trivial rfl rfl rfl ?_
    refine G.nil ?_
    refine C.region ?_
    refine G.add rfl trivial rfl rfl rfl rfl (by omega) ?_
    refine G.moveI rfl trivial rfl rfl rfl ?_
    refine G.nil ?_
    exact ⟨4 - (i + 1), by omega, i + 1, a31, c31, seg3, by omega, by rw [pagePart_succ hlt, bytesV_append]; exact hv, rfl, rfl, rfl, rfl, rfl, rfl, rfl⟩
  · intro hc1
    obtain rfl : i = 4 := by omega
    refine C.exit ?_
    refine C.seq ?_
    refine C.region ?_
    refine G.moveS rfl trivial rfl rfl rfl ?_
    refine G.assignS rfl trivial rfl rfl rfl ?_
    refine G.assignI rfl trivial rfl rfl rfl ?_
    refine G.nil ?_
    refine C.ret ?_
    -- end c1F
    exact ⟨rfl, _, Res.of (rs := [.tmp 4, .tmp 5]) rfl rfl, .slice a 256 c, seg, hown, rfl, rfl⟩
theorem page_read_out (L : List Seg) (v : Value) (no : Int) (hno : ¬ (0 ≤ no ∧ no < 96)) :
    FnS Try.prog W0 11 #[v, .int .i64 no] L (fun e L' => L' = L ∧ e = .returned (.tuple #[.slice none 0 0, .int .i64 3])) := by
  refine FnS.of (args := [v, .int .i64 no]) Try.func11 rfl rfl ?_
  refine C.seq ?_
  refine C.region ?_
  refine G.assignS rfl trivial rfl rfl rfl ?_
  refine G.assignI rfl trivial rfl rfl rfl ?_
  refine G.nil ?_
  refine C.seq ?_
  refine C.seq ?_
  refine C.region ?_
  refine G.moveI rfl trivial rfl rfl rfl ?_
  refine G.call E16 rfl rfl trivial rfl rfl (may_spec W0 _ no) rfl ?_
  rintro e L2 ⟨rfl, rfl⟩
  rw [show decide (0 ≤ no ∧ no < 96) = false from decide_eq_false hno]
  first | refine G.notD rfl trivial rfl rfl rfl ?_ | refine G.not rfl trivial rfl rfl rfl ?_
  refine G.nil ?_
  refine C.condT rfl ?_
  refine C.seq ?_
  refine C.region ?_
  refine G.assignS rfl trivial rfl rfl rfl ?_
  refine G.assignI rfl trivial rfl rfl rfl ?_
  refine G.nil ?_
  refine C.ret ?_
  -- end 
  exact ⟨rfl, _, Res.of (rs := [.tmp 4, .tmp 5]) rfl rfl, rfl, rfl⟩
theorem page_read_nil (L : List Seg) (no : Int) (hno : 0 ≤ no ∧ no < 96) :
    FnS Try.prog W0 11 #[.pointer none, .int .i64 no] L (fun e L' => L' = L ∧ e = .returned (.tuple #[.slice none 0 0, .int .i64 5])) := by
  refine FnS.of (args := [.pointer none, .int .i64 no]) Try.func11 rfl rfl ?_
  refine C.seq ?_
  refine C.region ?_
  refine G.assignS rfl trivial rfl rfl rfl ?_
  refine G.assignI rfl trivial rfl rfl rfl ?_
  refine G.nil ?_
  refine C.seq ?_
  refine C.seq ?_
  refine C.region ?_
  refine G.moveI rfl trivial rfl rfl rfl ?_
  refine G.call E16 rfl rfl trivial rfl rfl (may_spec W0 _ no) rfl ?_
  rintro e L2 ⟨rfl, rfl⟩
  rw [show decide (0 ≤ no ∧ no < 96) = true from decide_eq_true hno]
  first | refine G.notD rfl trivial rfl rfl rfl ?_ | refine G.not rfl trivial rfl rfl rfl ?_
  refine G.nil ?_
  refine C.condF rfl ?_
  refine C.skip ?_
  refine C.seq ?_
  refine C.region ?_
  refine G.assignS rfl trivial rfl rfl rfl ?_
  refine G.nil ?_
  refine C.seq ?_
  refine C.seq ?_
  refine C.region ?_
  refine G.moveI rfl trivial rfl rfl rfl ?_
  refine G.nil ?_
  refine C.block ?_
  refine C.loop (fun m F D' L' => m = 1 ∧ F 13 = .int .i64 0 ∧ F 0 = .pointer none ∧ F 1 = .int .i64 no ∧ D' = [] ∧ L2 = L') ⟨_, ⟨rfl, rfl, rfl, rfl, rfl, rfl⟩⟩ ?_
  rintro m F D' L' ⟨rfl, h13, h0', h1', rfl, rfl⟩
  refine C.fix (d := 13) h13 ?_
  refine C.fix (d := 0) h0' ?_
  refine C.fix (d := 1) h1' ?_
  refine C.seq ?_
  refine C.region ?_
  refine G.bin rfl trivial rfl rfl rfl rfl rfl ?_
  refine G.nil ?_
  refine C.seq ?_
  refine C.yes rfl (by decide) ?_
  refine C.skip ?_
  refine C.seq ?_
  refine C.block ?_
  refine C.seq ?_
  refine C.region ?_
  refine G.moveI rfl trivial rfl rfl rfl ?_
  refine G.assignI rfl trivial rfl rfl rfl ?_
  refine G.nil ?_
  refine C.seq ?_
  refine C.region ?_
  refine G.moveP rfl trivial rfl rfl rfl ?_
  refine G.moveI rfl trivial rfl rfl rfl ?_
  refine G.mul rfl trivial rfl rfl rfl rfl (by omega) ?_
  refine G.add rfl trivial rfl rfl rfl rfl (by omega) ?_
  refine G.moveI rfl trivial rfl rfl rfl ?_
  refine G.add rfl trivial rfl rfl rfl rfl (by omega) ?_
  refine G.call E10 rfl rfl trivial rfl rfl (read_nil W0 _ _) rfl ?_
  rintro e L2 ⟨rfl, rfl⟩
  refine G.moveU rfl trivial rfl rfl rfl ?_
  refine G.extractL rfl trivial rfl rfl rfl rfl ?_
  refine G.extractL rfl trivial rfl rfl rfl rfl ?_
  refine G.assignS rfl trivial rfl rfl rfl ?_
  refine G.assignI rfl trivial rfl rfl rfl ?_
  refine G.nil ?_
  refine C.seq ?_
  refine C.seq ?_
  refine C.region ?_
  refine G.moveI rfl trivial rfl rfl rfl ?_
  refine G.bin rfl trivial rfl rfl rfl rfl rfl ?_
  refine G.nil ?_
  refine C.yes rfl (by simp) ?_
  refine C.seq ?_
  refine C.region ?_
  refine G.moveI rfl trivial rfl rfl rfl ?_
  refine G.assignS rfl trivial rfl rfl rfl ?_
  refine G.assignI rfl trivial rfl rfl rfl ?_
  refine G.nil ?_
  refine C.ret ?_
  -- end 
  exact ⟨rfl, _, Res.of (rs := [.tmp 4, .tmp 5]) rfl rfl, rfl, rfl⟩
end dev
end Go.Proofs.Ytljcnombncjnnaa
