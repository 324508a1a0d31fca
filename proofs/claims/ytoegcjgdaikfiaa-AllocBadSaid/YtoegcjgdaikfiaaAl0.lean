/-
  Pages in memory, a sheet above them: what they hold, their functions walked.
-/
import Derived.Test.YtoegcjgdaikfiaaDv1
import Derived.Test.YtoegcjgdaikfiaaSLM
import Derived.Test.YtoegcjgdaikfiaaSLA
namespace Go.Proofs.Ytoegcjgdaikfiaa
open Go Go.SL Go.RowKit

abbrev nilS : Value := .slice none 0 0
def zero256 : List UInt8 := List.replicate 256 0
theorem zero256_length : zero256.length = 256 := by simp only [zero256, List.length_replicate]
/-- a book: its first page's place, and its bytes when it has them -/
abbrev Bk := Option (Nat × List UInt8)
def bkSlot : Bk → Value
  | none => nilS
  | some (b, _) => .slice (some ⟨b, 0, none⟩) 256 256
def bkRow (q : Bk) : List Value := nilS :: bkSlot q :: (List.replicate 94 nilS ++ [.int .i64 0])
def bkTail : Bk → Seg
  | none => []
  | some (b, xs) => [(b, .row (bytesV xs) 5 256)]
def bkSeg (bb : Nat) (q : Bk) : Seg := (bb, .row (bkRow q) 28 97) :: bkTail q
def bkPage (q : Bk) (no : Nat) : List UInt8 := match q with | some (_, xs) => if no = 1 then xs else zero256 | none => zero256
def Bk.ok (q : Bk) : Prop := match q with | some (_, xs) => xs.length = 256 | none => True
theorem bkRow_length (q : Bk) : (bkRow q).length = 97 := by simp only [bkRow, List.length_cons, List.length_append, List.length_replicate, List.length_nil]
theorem bkRow_bad (q : Bk) : (bkRow q)[96]? = some (.int .i64 0) := by
  unfold bkRow
  rw [List.getElem?_cons_succ, List.getElem?_cons_succ, List.getElem?_append_right (by rw [List.length_replicate]; decide), List.length_replicate]
  rfl
theorem bkRow_other (q : Bk) {no : Nat} (h : no < 96) (h1 : no ≠ 1) : (bkRow q)[no]? = some nilS := by
  unfold bkRow
  match no, h, h1 with
  | 0, _, _ => rfl
  | k + 2, h, _ =>
    rw [List.getElem?_cons_succ, List.getElem?_cons_succ, List.getElem?_append_left (by rw [List.length_replicate]; omega), List.getElem?_replicate, if_pos (by omega)]
theorem bkRow_one (q : Bk) : (bkRow q)[1]? = some (bkSlot q) := rfl
theorem bkPage_length {q : Bk} (h : q.ok) (no : Nat) : (bkPage q no).length = 256 := by
  unfold bkPage
  split
  · split
    · exact h
    · exact zero256_length
  · exact zero256_length
section book
variable (W0 : World)
theorem book_zero (L : List Seg) (bb : Nat) (row : List Value) (u : Nat → SObj → List Seg) (ha : At L bb (.row row 28 97) u) (hbad : row[96]? = some (.int .i64 0)) (no : Nat) (hno : no < 96) (hrow : row[no]? = some nilS) :
    FnS Try.prog W0 67 #[ptr bb, .int .i64 (no : Int)] L (fun e L' => ∃ v seg, OwnS v 256 (bytesV zero256) 5 1 seg ∧ L' = seg :: L ∧ e = .returned (.tuple #[v, .int .i64 0])) := by
  refine FnS.of (args := [ptr bb, .int .i64 (no : Int)]) Try.func67 rfl rfl ?_
  refine C.seq ?_
  refine C.region ?_
  refine G.assignS rfl trivial rfl rfl rfl ?_
  refine G.assignI rfl trivial rfl rfl rfl ?_
  refine G.nil ?_
  refine C.seq ?_
  refine C.seq ?_
  refine C.region ?_
  refine G.moveI rfl trivial rfl rfl rfl ?_
  refine G.bin rfl trivial rfl rfl rfl rfl rfl ?_
  refine G.moveB rfl trivial rfl rfl rfl ?_
  refine G.no (t := 8) rfl (by omega) ?_
  refine G.moveI rfl ⟨_, rfl, rfl, rfl⟩ rfl rfl rfl ?_
  refine G.bin rfl ⟨_, rfl, rfl, rfl⟩ rfl rfl rfl rfl rfl ?_
  first | refine G.pickT rfl trivial rfl rfl rfl rfl ?_ | refine G.pickF rfl trivial rfl rfl rfl rfl ?_
  refine G.nil ?_
  refine C.no rfl (by omega) ?_
  refine C.skip ?_
  refine C.seq ?_
  refine C.seq ?_
  refine C.region ?_
  refine G.moveP rfl trivial rfl rfl rfl ?_
  first | refine G.nilCheckP rfl trivial rfl rfl rfl ?_ | refine G.nilCheckF rfl trivial rfl rfl rfl ?_
  refine G.fieldAddr rfl trivial rfl rfl Try.underlying28 rfl I3 rfl rfl ?_
  refine G.loadAt (v := .int .i64 0) ha rfl trivial rfl rfl Try.underlying3 rfl rfl hbad ?_
  refine G.bin rfl trivial rfl rfl rfl rfl rfl ?_
  refine G.no (t := 16) rfl (by simp) ?_
  refine G.moveB rfl trivial rfl rfl rfl ?_
  refine G.skip rfl rfl rfl rfl rfl rfl ?_
  refine G.skip rfl rfl rfl rfl rfl rfl ?_
  refine G.skip rfl rfl rfl rfl rfl rfl ?_
  refine G.skip rfl rfl rfl rfl rfl rfl ?_
  refine G.skip rfl rfl rfl rfl rfl rfl ?_
  refine G.skip rfl rfl rfl rfl rfl rfl ?_
  first | refine G.pickT rfl trivial rfl rfl rfl rfl ?_ | refine G.pickF rfl trivial rfl rfl rfl rfl ?_
  refine G.nil ?_
  refine C.condF rfl ?_
  refine C.skip ?_
  refine C.seq ?_
  refine C.seq ?_
  refine C.region ?_
  refine G.moveP rfl trivial rfl rfl rfl ?_
  refine G.moveI rfl trivial rfl rfl rfl ?_
  first | refine G.nilCheckP rfl trivial rfl rfl rfl ?_ | refine G.nilCheckF rfl trivial rfl rfl rfl ?_
  refine G.fieldAddr rfl trivial rfl rfl Try.underlying28 rfl I26 rfl rfl ?_
  refine G.indexAddrArr rfl trivial rfl rfl Try.underlying26 I25 rfl rfl (by omega) ?_
  refine G.fix (d := 29) (v := .pointer (some ⟨bb, no, none⟩)) (by show Value.pointer (some ⟨bb, 0 + 0 + (no : Int).toNat * 1, none⟩) = _; simp) ?_
  refine G.loadAt (v := nilS) ha rfl trivial rfl rfl Try.underlying25 rfl rfl hrow ?_
  refine G.slEq rfl trivial rfl rfl Try.underlying25 rfl rfl ?_
  refine G.fix (d := 31) (v := .bool true) rfl ?_
  refine G.nil ?_
  refine C.condT rfl ?_
  refine C.seq ?_
  refine C.region ?_
  refine G.makeBytes (l := 256) (c := 256) rfl trivial rfl rfl Try.underlying25 I5 rfl rfl (by decide) ?_
  intro b32
  refine G.assignS rfl trivial rfl rfl rfl ?_
  refine G.assignI rfl trivial rfl rfl rfl ?_
  refine G.nil ?_
  refine C.ret ?_
  -- end 
  exact ⟨rfl, _, Res.of (rs := [.tmp 4, .tmp 5]) rfl rfl, _, _, OwnS.mk (by rw [bytesV_length, zero256_length]) (Nat.le_refl _) (Nat.le_refl _), rfl, rfl⟩
theorem book_one (L : List Seg) (bb : Nat) (row : List Value) (u : Nat → SObj → List Seg) (ha : At L bb (.row row 28 97) u) (hbad : row[96]? = some (.int .i64 0)) (b : Nat) (hrow : row[1]? = some (.slice (some ⟨b, 0, none⟩) 256 256)) (xs : List UInt8) (hx : xs.length = 256) (hr : Rd W0 L (some ⟨b, 0, none⟩) (bytesV xs)) :
    FnS Try.prog W0 67 #[ptr bb, .int .i64 1] L (fun e L' => ∃ v seg, OwnS v 256 (bytesV xs) 5 1 seg ∧ L' = seg :: L ∧ e = .returned (.tuple #[v, .int .i64 0])) := by
  refine FnS.of (args := [ptr bb, .int .i64 1]) Try.func67 rfl rfl ?_
  refine C.seq ?_
  refine C.region ?_
  refine G.assignS rfl trivial rfl rfl rfl ?_
  refine G.assignI rfl trivial rfl rfl rfl ?_
  refine G.nil ?_
  refine C.seq ?_
  refine C.seq ?_
  refine C.region ?_
  refine G.moveI rfl trivial rfl rfl rfl ?_
  refine G.bin rfl trivial rfl rfl rfl rfl rfl ?_
  refine G.moveB rfl trivial rfl rfl rfl ?_
  refine G.no (t := 8) rfl (by omega) ?_
  refine G.moveI rfl ⟨_, rfl, rfl, rfl⟩ rfl rfl rfl ?_
  refine G.bin rfl ⟨_, rfl, rfl, rfl⟩ rfl rfl rfl rfl rfl ?_
  first | refine G.pickT rfl trivial rfl rfl rfl rfl ?_ | refine G.pickF rfl trivial rfl rfl rfl rfl ?_
  refine G.nil ?_
  refine C.no rfl (by omega) ?_
  refine C.skip ?_
  refine C.seq ?_
  refine C.seq ?_
  refine C.region ?_
  refine G.moveP rfl trivial rfl rfl rfl ?_
  first | refine G.nilCheckP rfl trivial rfl rfl rfl ?_ | refine G.nilCheckF rfl trivial rfl rfl rfl ?_
  refine G.fieldAddr rfl trivial rfl rfl Try.underlying28 rfl I3 rfl rfl ?_
  refine G.loadAt (v := .int .i64 0) ha rfl trivial rfl rfl Try.underlying3 rfl rfl hbad ?_
  refine G.bin rfl trivial rfl rfl rfl rfl rfl ?_
  refine G.no (t := 16) rfl (by simp) ?_
  refine G.moveB rfl trivial rfl rfl rfl ?_
  refine G.skip rfl rfl rfl rfl rfl rfl ?_
  refine G.skip rfl rfl rfl rfl rfl rfl ?_
  refine G.skip rfl rfl rfl rfl rfl rfl ?_
  refine G.skip rfl rfl rfl rfl rfl rfl ?_
  refine G.skip rfl rfl rfl rfl rfl rfl ?_
  refine G.skip rfl rfl rfl rfl rfl rfl ?_
  first | refine G.pickT rfl trivial rfl rfl rfl rfl ?_ | refine G.pickF rfl trivial rfl rfl rfl rfl ?_
  refine G.nil ?_
  refine C.condF rfl ?_
  refine C.skip ?_
  refine C.seq ?_
  refine C.seq ?_
  refine C.region ?_
  refine G.moveP rfl trivial rfl rfl rfl ?_
  refine G.moveI rfl trivial rfl rfl rfl ?_
  first | refine G.nilCheckP rfl trivial rfl rfl rfl ?_ | refine G.nilCheckF rfl trivial rfl rfl rfl ?_
  refine G.fieldAddr rfl trivial rfl rfl Try.underlying28 rfl I26 rfl rfl ?_
  refine G.indexAddrArr rfl trivial rfl rfl Try.underlying26 I25 rfl rfl (by omega) ?_
  refine G.loadAt (v := .slice (some ⟨b, 0, none⟩) 256 256) ha rfl trivial rfl rfl Try.underlying25 rfl rfl hrow ?_
  refine G.slEq rfl trivial rfl rfl Try.underlying25 rfl rfl ?_
  refine G.fix (d := 31) (v := .bool false) rfl ?_
  refine G.nil ?_
  refine C.condF rfl ?_
  refine C.skip ?_
  refine C.seq ?_
  refine C.region ?_
  refine G.moveP rfl trivial rfl rfl rfl ?_
  refine G.moveI rfl trivial rfl rfl rfl ?_
  first | refine G.nilCheckP rfl trivial rfl rfl rfl ?_ | refine G.nilCheckF rfl trivial rfl rfl rfl ?_
  refine G.fieldAddr rfl trivial rfl rfl Try.underlying28 rfl I26 rfl rfl ?_
  refine G.indexAddrArr rfl trivial rfl rfl Try.underlying26 I25 rfl rfl (by omega) ?_
  refine G.loadAt (v := .slice (some ⟨b, 0, none⟩) 256 256) ha rfl trivial rfl rfl Try.underlying25 rfl rfl hrow ?_
  refine G.appendNil rfl trivial rfl rfl Try.underlying25 Try.underlying25 I5 rfl (by decide) rfl (by decide) hr (by rw [bytesV_length, hx]) bytesV_ok (by decide) ?_
  intro v s hv
  obtain ⟨a39, c39, rfl, _⟩ := hv.form
  refine G.assignS rfl trivial rfl rfl rfl ?_
  refine G.assignI rfl trivial rfl rfl rfl ?_
  refine G.nil ?_
  refine C.ret ?_
  -- end 
  exact ⟨rfl, _, Res.of (rs := [.tmp 4, .tmp 5]) rfl rfl, _, _, hv, rfl, rfl⟩
theorem book_out (L : List Seg) (v : Value) (no : Int) (hno : ¬ (0 ≤ no ∧ no < 96)) :
    FnS Try.prog W0 67 #[v, .int .i64 no] L (fun e L' => L' = L ∧ e = .returned (.tuple #[.slice none 0 0, .int .i64 3])) := by
  refine FnS.of (args := [v, .int .i64 no]) Try.func67 rfl rfl ?_
  refine C.seq ?_
  refine C.region ?_
  refine G.assignS rfl trivial rfl rfl rfl ?_
  refine G.assignI rfl trivial rfl rfl rfl ?_
  refine G.nil ?_
  refine C.seq ?_
  refine C.seq ?_
  refine C.region ?_
  refine G.moveI rfl trivial rfl rfl rfl ?_
  refine G.bin rfl trivial rfl rfl rfl rfl rfl ?_
  refine G.moveB rfl trivial rfl rfl rfl ?_
  refine G.fork (t := 8) _ rfl ?_ ?_
  · intro hg8
    refine G.skip rfl rfl rfl rfl rfl rfl ?_
    refine G.skip rfl rfl rfl rfl rfl rfl ?_
    first | refine G.pickT rfl trivial rfl rfl rfl rfl ?_ | refine G.pickF rfl trivial rfl rfl rfl rfl ?_
    refine G.nil ?_
    refine C.condT rfl ?_
    refine C.seq ?_
    refine C.region ?_
    refine G.assignS rfl trivial rfl rfl rfl ?_
    refine G.assignI rfl trivial rfl rfl rfl ?_
    refine G.nil ?_
    refine C.ret ?_
    -- end g8T
    exact ⟨rfl, _, Res.of (rs := [.tmp 4, .tmp 5]) rfl rfl, rfl, rfl⟩
  · intro hg8
    refine G.moveI rfl ⟨_, rfl, rfl, rfl⟩ rfl rfl rfl ?_
    refine G.bin rfl ⟨_, rfl, rfl, rfl⟩ rfl rfl rfl rfl rfl ?_
    first | refine G.pickT rfl trivial rfl rfl rfl rfl ?_ | refine G.pickF rfl trivial rfl rfl rfl rfl ?_
    refine G.nil ?_
    refine C.cond _ rfl ?_ ?_
    · intro hc0
      refine C.seq ?_
      refine C.region ?_
      refine G.assignS rfl trivial rfl rfl rfl ?_
      refine G.assignI rfl trivial rfl rfl rfl ?_
      refine G.nil ?_
      refine C.ret ?_
      -- end g8Fc0T
      exact ⟨rfl, _, Res.of (rs := [.tmp 4, .tmp 5]) rfl rfl, rfl, rfl⟩
    · intro hc0
      omega
/-- the book's page, whichever -/
theorem book_page (L : List Seg) (bb : Nat) (q : Bk) (hq : q.ok) (u : Nat → SObj → List Seg) (ha : At L bb (.row (bkRow q) 28 97) u) (hr : ∀ b xs, q = some (b, xs) → Rd W0 L (some ⟨b, 0, none⟩) (bytesV xs)) (no : Nat) (hno : no < 96) :
    FnS Try.prog W0 67 #[ptr bb, .int .i64 (no : Int)] L (fun e L' => ∃ v seg, OwnS v 256 (bytesV (bkPage q no)) 5 1 seg ∧ L' = seg :: L ∧ e = .returned (.tuple #[v, .int .i64 0])) := by
  by_cases h1 : no = 1
  · subst h1
    cases q with
    | none => exact book_zero W0 L bb _ u ha (bkRow_bad none) 1 hno (bkRow_one none)
    | some p =>
      obtain ⟨b, xs⟩ := p
      exact book_one W0 L bb _ u ha (bkRow_bad _) b (bkRow_one _) xs hq (hr b xs rfl)
  · have e : bkPage q no = zero256 := by
      unfold bkPage
      split
      · rw [if_neg h1]
      · rfl
    rw [e]
    exact book_zero W0 L bb _ u ha (bkRow_bad q) no hno (bkRow_other q hno h1)
end book
end Go.Proofs.Ytoegcjgdaikfiaa
