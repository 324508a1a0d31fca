/-
  Sheets: their functions walked.
-/
import Derived.Test.YtoegcjgdaikfiaaAl0
namespace Go.Proofs.Ytoegcjgdaikfiaa
open Go Go.SL Go.RowKit

theorem cloneA_nil (W0 : World) (L : List Seg) (c : Nat) :
    FnS Try.prog W0 26 #[.slice none 0 c] L (fun e L' => ∃ v seg, OwnS v 0 (bytesV []) 5 1 seg ∧ L' = seg :: L ∧ e = .returned v) := by
  refine FnS.of (args := [.slice none 0 c]) Try.func26 rfl rfl ?_
  refine C.seq ?_
  refine C.region ?_
  refine G.assignS rfl trivial rfl rfl rfl ?_
  refine G.nil ?_
  refine C.seq ?_
  refine C.seq ?_
  refine C.region ?_
  refine G.moveS rfl trivial rfl rfl rfl ?_
  refine G.slEq rfl trivial rfl rfl Try.underlying25 rfl rfl ?_
  refine G.fix (d := 4) (v := .bool true) rfl ?_
  refine G.nil ?_
  refine C.condT rfl ?_
  refine C.seq ?_
  refine C.region ?_
  refine G.assignS rfl trivial rfl rfl rfl ?_
  refine G.nil ?_
  refine C.less (fun _ h => h.empty) ?_
  refine C.ret ?_
  -- end 
  exact ⟨rfl, _, Res.of (rs := [.tmp 2]) rfl rfl, .slice none 0 0, [], OwnS.nil _ _, rfl, rfl⟩
theorem cloneA_any (W0 : World) (L : List Seg) (a : Option Addr) (l c : Nat) (xs : List UInt8) (hl : l = xs.length) (hx : xs.length ≤ 1000000) (hr : Rd W0 L a (bytesV xs)) :
    FnS Try.prog W0 26 #[.slice a l c] L (fun e L' => ∃ v seg, OwnS v l (bytesV xs) 5 1 seg ∧ L' = seg :: L ∧ e = .returned v) := by
  cases a with
  | some a => exact clone_spec W0 L a l c xs hl hx hr
  | none =>
    have h0 : xs = [] := List.eq_nil_of_length_eq_zero (by have := hr.ne1 rfl; simpa using this)
    subst h0
    obtain rfl : l = 0 := hl
    exact cloneA_nil W0 L c
abbrev shRow (bb bm : Nat) : List Value := [.iface 24 (ptr bb), .map (some bm)]
def shSeg (bs bm bb : Nat) (es : Ent) (ck : Nat) (q : Bk) : Seg := (bs, .row (shRow bb bm) 56 2) :: (bm, mapO .i64 es ck) :: bkSeg bb q
/-- a sheet whose pages are these -/
def Sh (q : Bk) (bs : Nat) (pg : Nat → List UInt8) (sg : Seg) : Prop :=
  ∃ bm bb es ck, Bk.ok q ∧ sg = shSeg bs bm bb es ck q ∧ ∀ no, no < 96 → (pg no).length = 256 ∧ (mget es (no : Int) = some (.string (strB (pg no))) ∨ (mget es (no : Int) = none ∧ bkPage q no = pg no))
def updP (pg : Nat → List UInt8) (no : Nat) (xs : List UInt8) : Nat → List UInt8 := fun k => if k = no then xs else pg k
section sheet
variable (W0 : World) (S L0 : List Seg) (bs : Nat)
theorem smay_ok (L : List Seg) (no : Nat) (hno : no < 96) : FnS Try.prog W0 21 #[ptr bs, .int .i64 (no : Int)] L (fun e L' => L' = L ∧ e = .returned (.int .i64 0)) := by
  refine FnS.of (args := [ptr bs, .int .i64 (no : Int)]) Try.func21 rfl rfl ?_
  refine C.seq ?_
  refine C.region ?_
  refine G.assignI rfl trivial rfl rfl rfl ?_
  refine G.nil ?_
  refine C.seq ?_
  refine C.block ?_
  refine C.seq ?_
  refine C.region ?_
  refine G.moveP rfl trivial rfl rfl rfl ?_
  refine G.ptrEq rfl trivial rfl rfl Try.underlying29 rfl rfl ?_
  refine G.fix (d := 7) (v := .bool false) rfl ?_
  refine G.assignB rfl trivial rfl rfl rfl ?_
  refine G.nil ?_
  refine C.condF rfl ?_
  refine C.seq ?_
  refine C.region ?_
  refine G.moveI rfl trivial rfl rfl rfl ?_
  refine G.bin rfl trivial rfl rfl rfl rfl rfl ?_
  refine G.moveB rfl trivial rfl rfl rfl ?_
  refine G.no (t := 11) rfl (by omega) ?_
  refine G.moveI rfl ⟨_, rfl, rfl, rfl⟩ rfl rfl rfl ?_
  refine G.bin rfl ⟨_, rfl, rfl, rfl⟩ rfl rfl rfl rfl rfl ?_
  first | refine G.pickT rfl trivial rfl rfl rfl rfl ?_ | refine G.pickF rfl trivial rfl rfl rfl rfl ?_
  refine G.assignB rfl trivial rfl rfl rfl ?_
  refine G.nil ?_
  refine C.no rfl (by omega) ?_
  refine C.skip ?_
  refine C.seq ?_
  refine C.region ?_
  refine G.assignI rfl trivial rfl rfl rfl ?_
  refine G.nil ?_
  refine C.ret ?_
  -- end 
  exact ⟨rfl, _, Res.of (rs := [.tmp 4]) rfl rfl, rfl, rfl⟩
theorem smay_out (L : List Seg) (no : Int) (hno : ¬ (0 ≤ no ∧ no < 96)) : FnS Try.prog W0 21 #[ptr bs, .int .i64 no] L (fun e L' => L' = L ∧ e = .returned (.int .i64 3)) := by
  refine FnS.of (args := [ptr bs, .int .i64 no]) Try.func21 rfl rfl ?_
  refine C.seq ?_
  refine C.region ?_
  refine G.assignI rfl trivial rfl rfl rfl ?_
  refine G.nil ?_
  refine C.seq ?_
  refine C.block ?_
  refine C.seq ?_
  refine C.region ?_
  refine G.moveP rfl trivial rfl rfl rfl ?_
  refine G.ptrEq rfl trivial rfl rfl Try.underlying29 rfl rfl ?_
  refine G.fix (d := 7) (v := .bool false) rfl ?_
  refine G.assignB rfl trivial rfl rfl rfl ?_
  refine G.nil ?_
  refine C.condF rfl ?_
  refine C.seq ?_
  refine C.region ?_
  refine G.moveI rfl trivial rfl rfl rfl ?_
  refine G.bin rfl trivial rfl rfl rfl rfl rfl ?_
  refine G.moveB rfl trivial rfl rfl rfl ?_
  refine G.fork (t := 11) _ rfl ?_ ?_
  · intro hg11
    refine G.skip rfl rfl rfl rfl rfl rfl ?_
    refine G.skip rfl rfl rfl rfl rfl rfl ?_
    first | refine G.pickT rfl trivial rfl rfl rfl rfl ?_ | refine G.pickF rfl trivial rfl rfl rfl rfl ?_
    refine G.assignB rfl trivial rfl rfl rfl ?_
    refine G.nil ?_
    refine C.condT rfl ?_
    refine C.seq ?_
    refine C.region ?_
    refine G.assignI rfl trivial rfl rfl rfl ?_
    refine G.nil ?_
    refine C.ret ?_
    -- end g11T
    exact ⟨rfl, _, Res.of (rs := [.tmp 4]) rfl rfl, rfl, rfl⟩
  · intro hg11
    refine G.moveI rfl ⟨_, rfl, rfl, rfl⟩ rfl rfl rfl ?_
    refine G.bin rfl ⟨_, rfl, rfl, rfl⟩ rfl rfl rfl rfl rfl ?_
    first | refine G.pickT rfl trivial rfl rfl rfl rfl ?_ | refine G.pickF rfl trivial rfl rfl rfl rfl ?_
    refine G.assignB rfl trivial rfl rfl rfl ?_
    refine G.nil ?_
    refine C.cond _ rfl ?_ ?_
    · intro hc1
      refine C.seq ?_
      refine C.region ?_
      refine G.assignI rfl trivial rfl rfl rfl ?_
      refine G.nil ?_
      refine C.ret ?_
      -- end g11Fc1T
      exact ⟨rfl, _, Res.of (rs := [.tmp 4]) rfl rfl, rfl, rfl⟩
    · intro hc1
      omega
theorem bk_at (bm bb : Nat) (es : Ent) (ck : Nat) (q : Bk) : At (S ++ (shSeg bs bm bb es ck q :: L0)) bb (.row (bkRow q) 28 97) (fun b' o' => S ++ (((bs, .row (shRow bb bm) 56 2) :: (bm, mapO .i64 es ck) :: (b', o') :: bkTail q) :: L0)) := .app .in2
theorem bk_rd (bm bb : Nat) (es : Ent) (ck : Nat) (q : Bk) (b : Nat) (xs : List UInt8) (h : q = some (b, xs)) : Rd W0 (S ++ (shSeg bs bm bb es ck q :: L0)) (some ⟨b, 0, none⟩) (bytesV xs) := by
  subst h
  exact Rd.row0 (.app (At.mid (s1 := [_, _, _])))
theorem below_spec (bm bb : Nat) (es : Ent) (ck : Nat) (q : Bk) (hq : q.ok) (no : Nat) (hno : no < 96) :
    FnS Try.prog W0 22 #[ptr bs, .int .i64 (no : Int)] (S ++ (shSeg bs bm bb es ck q :: L0)) (fun e L' => ∃ v seg, OwnS v 256 (bytesV (bkPage q no)) 5 1 seg ∧ L' = seg :: (S ++ (shSeg bs bm bb es ck q :: L0)) ∧ e = .returned (.tuple #[v, .int .i64 0])) := by
  have hl := bkPage_length hq no
  refine FnS.of (args := [ptr bs, .int .i64 (no : Int)]) Try.func22 rfl rfl ?_
  refine C.seq ?_
  refine C.region ?_
  refine G.assignS rfl trivial rfl rfl rfl ?_
  refine G.assignI rfl trivial rfl rfl rfl ?_
  refine G.nil ?_
  refine C.seq ?_
  refine C.seq ?_
  refine C.region ?_
  refine G.moveP rfl trivial rfl rfl rfl ?_
  first | refine G.nilCheckP rfl trivial rfl rfl rfl ?_ | refine G.nilCheckF rfl trivial rfl rfl rfl ?_
  refine G.fieldAddr rfl trivial rfl rfl Try.underlying56 rfl I53 rfl rfl ?_
  refine G.loadAt (v := .iface 24 (ptr bb)) (.app .here) rfl trivial rfl rfl Try.underlying53 rfl rfl rfl ?_
  refine G.ifEq rfl trivial rfl rfl Try.underlying53 rfl rfl ?_
  refine G.fix (d := 12) (v := .bool false) rfl ?_
  refine G.nil ?_
  refine C.condF rfl ?_
  refine C.skip ?_
  refine C.seq ?_
  refine C.region ?_
  refine G.moveP rfl trivial rfl rfl rfl ?_
  first | refine G.nilCheckP rfl trivial rfl rfl rfl ?_ | refine G.nilCheckF rfl trivial rfl rfl rfl ?_
  refine G.fieldAddr rfl trivial rfl rfl Try.underlying56 rfl I53 rfl rfl ?_
  refine G.loadAt (v := .iface 24 (ptr bb)) (.app .here) rfl trivial rfl rfl Try.underlying53 rfl rfl rfl ?_
  refine G.moveI rfl trivial rfl rfl rfl ?_
  refine G.invokeP E67 (MethP.of (by kernel_rfl) Try.underlying24) rfl rfl rfl trivial rfl rfl (book_page W0 _ bb q hq _ (bk_at S L0 bs bm bb es ck q) (bk_rd W0 S L0 bs bm bb es ck q) no hno) rfl ?_
  rintro e L2 ⟨v19, s19, hv19, rfl, rfl⟩
  obtain ⟨a19, c19, rfl, hr19⟩ := hv19.form
  refine G.moveU rfl trivial rfl rfl rfl ?_
  refine G.extractL rfl trivial rfl rfl rfl rfl ?_
  refine G.extractL rfl trivial rfl rfl rfl rfl ?_
  refine G.assignS rfl trivial rfl rfl rfl ?_
  refine G.assignI rfl trivial rfl rfl rfl ?_
  refine G.nil ?_
  refine C.seq ?_
  refine C.seq ?_
  refine C.region ?_
  refine G.moveI rfl trivial rfl rfl rfl ?_
  refine G.bin rfl trivial rfl rfl rfl rfl rfl ?_
  refine G.nil ?_
  refine C.no rfl (by simp) ?_
  refine C.skip ?_
  refine C.seq ?_
  refine C.region ?_
  refine G.moveS rfl trivial rfl rfl rfl ?_
  refine G.call E26 rfl rfl trivial rfl rfl (cloneA_any W0 _ a19 256 c19 (bkPage q no) hl.symm (by omega) (hr19 _ _)) rfl ?_
  rintro e L2 ⟨v26, s26, hv26, rfl, rfl⟩
  obtain ⟨a26, c26, rfl, _⟩ := hv26.form
  refine G.assignS rfl trivial rfl rfl rfl ?_
  refine G.assignI rfl trivial rfl rfl rfl ?_
  refine G.nil ?_
  refine C.less (fun _ h => h.skip1) ?_
  refine C.ret ?_
  -- end 
  exact ⟨rfl, _, Res.of (rs := [.tmp 4, .tmp 5]) rfl rfl, _, s26, hv26, rfl, rfl⟩
theorem spage_spec {q : Bk} (pg : Nat → List UInt8) (sg : Seg) (hsg : Sh q bs pg sg) (no : Nat) (hno : no < 96) :
    FnS Try.prog W0 11 #[ptr bs, .int .i64 (no : Int)] (S ++ (sg :: L0)) (fun e L' => ∃ v seg, OwnS v 256 (bytesV (pg no)) 5 1 seg ∧ L' = seg :: (S ++ (sg :: L0)) ∧ e = .returned (.tuple #[v, .int .i64 0])) := by
  obtain ⟨bm, bb, es, ck, hq, rfl, hv⟩ := hsg
  obtain ⟨hlen, hm⟩ := hv no hno
  refine FnS.of (args := [ptr bs, .int .i64 (no : Int)]) Try.func11 rfl rfl ?_
  refine C.seq ?_
  refine C.region ?_
  refine G.assignS rfl trivial rfl rfl rfl ?_
  refine G.assignI rfl trivial rfl rfl rfl ?_
  refine G.nil ?_
  refine C.seq ?_
  refine C.seq ?_
  refine C.region ?_
  refine G.moveP rfl trivial rfl rfl rfl ?_
  refine G.moveI rfl trivial rfl rfl rfl ?_
  refine G.call E21 rfl rfl trivial rfl rfl (smay_ok W0 bs _ no hno) rfl ?_
  rintro e L2 ⟨rfl, rfl⟩
  refine G.assignI rfl trivial rfl rfl rfl ?_
  refine G.nil ?_
  refine C.seq ?_
  refine C.region ?_
  refine G.moveI rfl trivial rfl rfl rfl ?_
  refine G.bin rfl trivial rfl rfl rfl rfl rfl ?_
  refine G.nil ?_
  refine C.no rfl (by simp) ?_
  refine C.skip ?_
  refine C.seq ?_
  refine C.seq ?_
  refine C.region ?_
  refine G.moveP rfl trivial rfl rfl rfl ?_
  first | refine G.nilCheckP rfl trivial rfl rfl rfl ?_ | refine G.nilCheckF rfl trivial rfl rfl rfl ?_
  refine G.fieldAddr rfl trivial rfl rfl Try.underlying56 rfl I54 rfl rfl ?_
  refine G.loadAt (v := .map (some bm)) (.app .here) rfl trivial rfl rfl Try.underlying54 rfl rfl rfl ?_
  refine G.moveI rfl trivial rfl rfl rfl ?_
  by_cases hf : mget es (no : Int) = some (.string (strB (pg no)))
  ·
    refine G.lookupOk (.app .in1) rfl trivial rfl rfl Try.underlying54 Try.underlying3 I9 rfl rfl ?_
    rw [hf, Option.getD_some, Option.isSome_some]
    refine G.moveU rfl trivial rfl rfl rfl ?_
    refine G.extractL rfl trivial rfl rfl rfl rfl ?_
    refine G.extractL rfl trivial rfl rfl rfl rfl ?_
    refine G.assignT rfl trivial rfl rfl rfl ?_
    refine G.assignB rfl trivial rfl rfl rfl ?_
    refine G.nil ?_
    refine C.seq ?_
    refine C.region ?_
    refine G.moveB rfl trivial rfl rfl rfl ?_
    refine G.nil ?_
    refine C.condT rfl ?_
    refine C.seq ?_
    refine C.region ?_
    refine G.moveT rfl trivial rfl rfl rfl ?_
    refine G.strBytes rfl trivial rfl rfl Try.underlying9 Try.underlying25 Try.underlying5 rfl ?_
    intro b26 c26 hc26
    refine G.assignS rfl trivial rfl rfl rfl ?_
    refine G.assignI rfl trivial rfl rfl rfl ?_
    refine G.nil ?_
    refine C.ret ?_
    -- end x21T
    have hsz : (strB (pg no)).size = 256 := hlen
    rw [hsz] at hc26
    exact ⟨rfl, _, Res.of (rs := [.tmp 4, .tmp 5]) rfl rfl, .slice (some ⟨b26, 0, none⟩) 256 c26, [(b26, .row (bytesV (pg no)) 5 c26)], OwnS.mk (by rw [bytesV_length, hlen]) (by omega) hc26, by rw [toList_strB], by rw [hsz]; rfl⟩
  ·
    obtain ⟨hn, hp⟩ : mget es (no : Int) = none ∧ bkPage q no = pg no := by rcases hm with h | h; exact absurd h hf; exact h
    refine G.lookupOk (.app .in1) rfl trivial rfl rfl Try.underlying54 Try.underlying3 I9 rfl rfl ?_
    rw [hn, Option.getD_none, Option.isSome_none]
    refine G.moveU rfl trivial rfl rfl rfl ?_
    refine G.extractL rfl trivial rfl rfl rfl rfl ?_
    refine G.extractL rfl trivial rfl rfl rfl rfl ?_
    refine G.assignT rfl trivial rfl rfl rfl ?_
    refine G.assignB rfl trivial rfl rfl rfl ?_
    refine G.nil ?_
    refine C.seq ?_
    refine C.region ?_
    refine G.moveB rfl trivial rfl rfl rfl ?_
    refine G.nil ?_
    refine C.condF rfl ?_
    refine C.skip ?_
    refine C.seq ?_
    refine C.region ?_
    refine G.moveP rfl trivial rfl rfl rfl ?_
    refine G.moveI rfl trivial rfl rfl rfl ?_
    refine G.call E22 rfl rfl trivial rfl rfl (below_spec W0 S L0 bs bm bb es ck q hq no hno) rfl ?_
    rintro e L2 ⟨v29, s29, hv29, rfl, rfl⟩
    rw [hp] at hv29
    obtain ⟨a29, c29, rfl, _⟩ := hv29.form
    refine G.extractL rfl trivial rfl rfl rfl rfl ?_
    refine G.extractL rfl trivial rfl rfl rfl rfl ?_
    refine G.assignS rfl trivial rfl rfl rfl ?_
    refine G.assignI rfl trivial rfl rfl rfl ?_
    refine G.nil ?_
    refine C.ret ?_
    -- end x21F
    exact ⟨rfl, _, Res.of (rs := [.tmp 4, .tmp 5]) rfl rfl, _, s29, hv29, rfl, rfl⟩
theorem Sh.set {bm bb : Nat} {es : Ent} {ck : Nat} {q : Bk} {pg : Nat → List UInt8} (hq : q.ok) (hv : ∀ no, no < 96 → (pg no).length = 256 ∧ (mget es (no : Int) = some (.string (strB (pg no))) ∨ (mget es (no : Int) = none ∧ bkPage q no = pg no))) (no : Nat) {xs : List UInt8} (hx : xs.length = 256) :
    Sh q bs (updP pg no xs) (shSeg bs bm bb (mput es ck (no : Int) (.string (strB xs))).1 (mput es ck (no : Int) (.string (strB xs))).2 q) := by
  refine ⟨bm, bb, _, _, hq, rfl, fun k hk => ?_⟩
  obtain ⟨h1, h2⟩ := hv k hk
  unfold updP
  rw [mget_mput]
  by_cases e : k = no
  · subst e
    rw [if_pos rfl, if_pos rfl]
    exact ⟨hx, .inl rfl⟩
  · rw [if_neg e, if_neg (by omega)]
    exact ⟨h1, h2⟩
theorem sset_spec {q : Bk} (pg : Nat → List UInt8) (sg : Seg) (hsg : Sh q bs pg sg) (no : Nat) (hno : no < 96) (a : Option Addr) (c : Nat) (xs : List UInt8) (hx : xs.length = 256) (hr : Rd W0 (S ++ (sg :: L0)) a (bytesV xs)) :
    FnS Try.prog W0 12 #[ptr bs, .int .i64 (no : Int), .slice a 256 c] (S ++ (sg :: L0)) (fun e L' => ∃ sg', Sh q bs (updP pg no xs) sg' ∧ L' = S ++ (sg' :: L0) ∧ e = .returned (.int .i64 0)) := by
  obtain ⟨bm, bb, es, ck, hq, rfl, hv⟩ := hsg
  refine FnS.of (args := [ptr bs, .int .i64 (no : Int), .slice a 256 c]) Try.func12 rfl rfl ?_
  refine C.seq ?_
  refine C.region ?_
  refine G.assignI rfl trivial rfl rfl rfl ?_
  refine G.nil ?_
  refine C.seq ?_
  refine C.seq ?_
  refine C.region ?_
  refine G.moveP rfl trivial rfl rfl rfl ?_
  refine G.moveI rfl trivial rfl rfl rfl ?_
  refine G.call E21 rfl rfl trivial rfl rfl (smay_ok W0 bs _ no hno) rfl ?_
  rintro e L2 ⟨rfl, rfl⟩
  refine G.assignI rfl trivial rfl rfl rfl ?_
  refine G.nil ?_
  refine C.seq ?_
  refine C.region ?_
  refine G.moveI rfl trivial rfl rfl rfl ?_
  refine G.bin rfl trivial rfl rfl rfl rfl rfl ?_
  refine G.nil ?_
  refine C.no rfl (by simp) ?_
  refine C.skip ?_
  refine C.seq ?_
  refine C.seq ?_
  refine C.region ?_
  refine G.moveS rfl trivial rfl rfl rfl ?_
  refine G.lenSlice rfl trivial rfl rfl Try.underlying25 rfl ?_
  refine G.bin rfl trivial rfl rfl rfl rfl rfl ?_
  refine G.nil ?_
  refine C.no rfl (by simp) ?_
  refine C.skip ?_
  refine C.seq ?_
  refine C.drawn mixed (_) [7] (fun _ h => h) ?_
  refine GA.pure (i := 0) (fun _ _ _ _ _ h => h) rfl (by kernel_rfl) trivial rfl rfl (Y.moveP rfl rfl) (#[true, false, false, false, false, false, false, false]) (by kernel_rfl) ?_
  first | refine GA.pure (i := 1) (fun _ _ _ _ _ h => h) rfl (by kernel_rfl) trivial rfl rfl (Y.nilCheckP rfl rfl) (#[true, true, false, false, false, false, false, false]) (by kernel_rfl) ?_ | refine GA.pure (i := 1) (fun _ _ _ _ _ h => h) rfl (by kernel_rfl) trivial rfl rfl (Y.nilCheckF rfl rfl) (#[true, true, false, false, false, false, false, false]) (by kernel_rfl) ?_
  refine GA.pure (i := 2) (fun _ _ _ _ _ h => h) rfl (by kernel_rfl) trivial rfl rfl (Y.fieldAddr rfl Try.underlying56 rfl I54 rfl rfl) (#[true, true, true, false, false, false, false, false]) (by kernel_rfl) ?_
  refine GA.read (i := 3) (fun _ _ _ _ _ h => h) rfl (by kernel_rfl) (by kernel_rfl) trivial rfl rfl (Y.loadAt (v := .map (some bm)) (.app .here) rfl Try.underlying54 rfl rfl rfl) (#[true, true, true, true, false, false, false, false]) (by kernel_rfl) ?_
  refine GA.pure (i := 4) (fun _ _ _ _ _ h => h) rfl (by kernel_rfl) trivial rfl rfl (Y.moveI rfl rfl) (#[true, true, true, true, true, false, false, false]) (by kernel_rfl) ?_
  refine GA.pure (i := 5) (fun _ _ _ _ _ h => h) rfl (by kernel_rfl) trivial rfl rfl (Y.moveS rfl rfl) (#[true, true, true, true, true, true, false, false]) (by kernel_rfl) ?_
  refine GA.read (i := 6) (fun _ _ _ _ _ h => h) rfl (by kernel_rfl) (by kernel_rfl) trivial rfl rfl (Y.bytesStr xs rfl Try.underlying25 Try.underlying5 Try.underlying9 rfl hx.symm hr) (#[true, true, true, true, true, true, true, false]) (by kernel_rfl) ?_
  refine GA.one (i := 7) rfl (by kernel_rfl) (#[true, true, true, true, true, true, true, true]) (by kernel_rfl) ?_
  refine G.mapUpdate (.app .in1) rfl trivial rfl Try.underlying54 Try.underlying3 rfl rfl rfl ?_
  refine G.nil ?_
  refine ⟨fun _ h => absurd h (by simp [hit]), ?_⟩
  refine GA.done (by kernel_rfl) ?_
  refine C.seq ?_
  refine C.region ?_
  refine G.assignI rfl trivial rfl rfl rfl ?_
  refine G.nil ?_
  refine C.ret ?_
  -- end 
  exact ⟨rfl, _, Res.of (rs := [.tmp 6]) rfl rfl, _, Sh.set bs hq hv no hx, rfl, rfl⟩
theorem sset_form (L : List Seg) (no : Nat) (hno : no < 96) (a : Option Addr) (m c : Nat) (hm : m ≠ 256) :
    FnS Try.prog W0 12 #[ptr bs, .int .i64 (no : Int), .slice a m c] L (fun e L' => L' = L ∧ e = .returned (.int .i64 1)) := by
  refine FnS.of (args := [ptr bs, .int .i64 (no : Int), .slice a m c]) Try.func12 rfl rfl ?_
  refine C.seq ?_
  refine C.region ?_
  refine G.assignI rfl trivial rfl rfl rfl ?_
  refine G.nil ?_
  refine C.seq ?_
  refine C.seq ?_
  refine C.region ?_
  refine G.moveP rfl trivial rfl rfl rfl ?_
  refine G.moveI rfl trivial rfl rfl rfl ?_
  refine G.call E21 rfl rfl trivial rfl rfl (smay_ok W0 bs _ no hno) rfl ?_
  rintro e L2 ⟨rfl, rfl⟩
  refine G.assignI rfl trivial rfl rfl rfl ?_
  refine G.nil ?_
  refine C.seq ?_
  refine C.region ?_
  refine G.moveI rfl trivial rfl rfl rfl ?_
  refine G.bin rfl trivial rfl rfl rfl rfl rfl ?_
  refine G.nil ?_
  refine C.no rfl (by simp) ?_
  refine C.skip ?_
  refine C.seq ?_
  refine C.seq ?_
  refine C.region ?_
  refine G.moveS rfl trivial rfl rfl rfl ?_
  refine G.lenSlice rfl trivial rfl rfl Try.underlying25 rfl ?_
  refine G.bin rfl trivial rfl rfl rfl rfl rfl ?_
  refine G.nil ?_
  refine C.yes rfl (by omega) ?_
  refine C.seq ?_
  refine C.region ?_
  refine G.assignI rfl trivial rfl rfl rfl ?_
  refine G.nil ?_
  refine C.ret ?_
  -- end 
  exact ⟨rfl, _, Res.of (rs := [.tmp 6]) rfl rfl, rfl, rfl⟩
/-- a new sheet above a book -/
theorem snew_spec (bb : Nat) (q : Bk) (hq : q.ok) :
    FnS Try.prog W0 9 #[.iface 24 (ptr bb)] (bkSeg bb q :: L0) (fun e L' => ∃ bs sg, Sh q bs (bkPage q) sg ∧ L' = sg :: L0 ∧ e = .returned (ptr bs)) := by
  refine FnS.of (args := [.iface 24 (ptr bb)]) Try.func9 rfl rfl ?_
  refine C.seq ?_
  refine C.region ?_
  refine G.assignP rfl trivial rfl rfl rfl ?_
  refine G.nil ?_
  refine C.seq ?_
  refine C.region ?_
  first | refine G.moveW rfl trivial rfl rfl rfl ?_ | refine G.move .nilIface rfl trivial rfl rfl rfl ?_
  refine G.makeMap (kd := .i64) rfl trivial rfl rfl ?_
  intro bm
  refine G.buildL rfl trivial rfl rfl Try.underlying56 I56 B56 rfl rfl ?_
  refine G.boxG rfl trivial rfl rfl rfl ?_
  intro bs
  refine G.assignP rfl trivial rfl rfl rfl ?_
  refine G.nil ?_
  refine C.less (L' := shSeg bs bm bb [] 0 q :: L0) (fun _ h => h.of_flat (by simp only [shSeg, List.flatten_cons, List.singleton_append, List.cons_append]; exact List.Perm.refl _)) ?_
  refine C.ret ?_
  -- end 
  exact ⟨rfl, _, Res.of (rs := [.tmp 2]) rfl rfl, bs, _, ⟨bm, bb, [], 0, hq, rfl, fun no _ => ⟨bkPage_length hq no, .inr ⟨rfl, rfl⟩⟩⟩, rfl, rfl⟩
theorem Sh.rd {b : Nat} {xs : List UInt8} {pg : Nat → List UInt8} {sg : Seg} (h : Sh (some (b, xs)) bs pg sg) : Rd W0 (S ++ (sg :: L0)) (some ⟨b, 0, none⟩) (bytesV xs) := by
  obtain ⟨bm, bb, es, ck, hq, rfl, hv⟩ := h
  exact bk_rd W0 S L0 bs bm bb es ck _ b xs rfl
end sheet
end Go.Proofs.Ytoegcjgdaikfiaa
