/-
  Sheets: the program's functions walked over whatever has pages; the book of the laws.
-/
import Derived.Test.YtgfdghhojnmaoaaSh0
namespace Go.Proofs.Ytgfdghhojnmaoaa
namespace Sht
open Go Go.SL Go.RowKit

theorem cloneA_nil (W0 : World) (L : List Seg) (c : Nat) :
    FnS Try.prog W0 30 #[.slice none 0 c] L (fun e L' => ∃ v seg, OwnS v 0 (bytesV []) 5 1 seg ∧ L' = seg :: L ∧ e = .returned v) := by
  refine FnS.of (args := [.slice none 0 c]) Try.func30 rfl rfl ?_
  refine C.seq ?_
  refine C.region ?_
  refine G.assignS rfl trivial rfl rfl rfl ?_
  refine G.nil ?_
  refine C.seq ?_
  refine C.seq ?_
  refine C.region ?_
  refine G.moveS rfl trivial rfl rfl rfl ?_
  refine G.slEq rfl trivial rfl rfl Try.underlying22 rfl rfl ?_
  refine G.fix (d := 4) (v := .bool true) rfl ?_
  refine G.nil ?_
  refine C.condT rfl ?_
  refine C.seq ?_
  refine C.region ?_
  refine G.assignS rfl trivial rfl rfl rfl ?_
  refine G.nil ?_
  refine C.less (fun _ h => h.empty) ?_
  refine C.ret ?_
  -- end 
  exact ⟨rfl, _, Res.of (rs := [.tmp 2]) rfl rfl, .slice none 0 0, [], OwnS.nil _ _, rfl, rfl⟩
theorem cloneA_any (W0 : World) (L : List Seg) (a : Option Addr) (c : Nat) (xs : List UInt8) (hx : xs.length ≤ 1000000) (hr : Rd W0 L a (bytesV xs)) :
    FnS Try.prog W0 30 #[.slice a xs.length c] L (fun e L' => ∃ v seg, OwnS v xs.length (bytesV xs) 5 1 seg ∧ L' = seg :: L ∧ e = .returned v) := by
  cases a with
  | some a => exact clone_spec W0 L a _ c xs rfl hx hr
  | none =>
    have h0 : xs = [] := List.eq_nil_of_length_eq_zero (by have := hr.ne1 rfl; simpa using this)
    subst h0
    exact cloneA_nil W0 L c
abbrev shS (bs bm : Nat) (pv : Value) : Seg := [(bs, .row [pv, .map (some bm)] 58 2)]
section sheet
variable (W0 : World) (bs : Nat)
theorem smay_nil (L : List Seg) (no : Int) : FnS Try.prog W0 24 #[.pointer none, .int .i64 no] L (fun e L' => L' = L ∧ e = .returned (.int .i64 5)) := by
  refine FnS.of (args := [.pointer none, .int .i64 no]) Try.func24 rfl rfl ?_
  refine C.seq ?_
  refine C.region ?_
  refine G.assignI rfl trivial rfl rfl rfl ?_
  refine G.nil ?_
  refine C.seq ?_
  refine C.block ?_
  refine C.seq ?_
  refine C.region ?_
  refine G.moveP rfl trivial rfl rfl rfl ?_
  refine G.ptrEq rfl trivial rfl rfl Try.underlying30 rfl rfl ?_
  refine G.assignB rfl trivial rfl rfl rfl ?_
  refine G.nil ?_
  refine C.condT rfl ?_
  refine C.seq ?_
  refine C.region ?_
  refine G.assignI rfl trivial rfl rfl rfl ?_
  refine G.nil ?_
  refine C.ret ?_
  -- end 
  exact ⟨rfl, _, Res.of (rs := [.tmp 4]) rfl rfl, rfl, rfl⟩
theorem smay_spec (L : List Seg) (no : Int) : FnS Try.prog W0 24 #[ptr bs, .int .i64 no] L (fun e L' => L' = L ∧ e = .returned (.int .i64 (if no < 0 ∨ 95 < no then 3 else 0))) := by
  refine FnS.of (args := [ptr bs, .int .i64 no]) Try.func24 rfl rfl ?_
  refine C.seq ?_
  refine C.region ?_
  refine G.assignI rfl trivial rfl rfl rfl ?_
  refine G.nil ?_
  refine C.seq ?_
  refine C.block ?_
  refine C.seq ?_
  refine C.region ?_
  refine G.moveP rfl trivial rfl rfl rfl ?_
  refine G.ptrEq rfl trivial rfl rfl Try.underlying30 rfl rfl ?_
  refine G.fix (d := 7) (v := .bool false) rfl ?_
  refine G.assignB rfl trivial rfl rfl rfl ?_
  refine G.nil ?_
  refine C.condF rfl ?_
  refine C.seq ?_
  refine C.region ?_
  refine G.moveI rfl trivial rfl rfl rfl ?_
  refine G.bin rfl trivial rfl rfl rfl rfl rfl ?_
  refine G.moveB rfl trivial rfl rfl rfl ?_
  refine G.fork (t := 11) _ rfl ?_ ?_
  · intro hg11
    refine G.skip rfl rfl rfl rfl rfl rfl ?_
    refine G.skip rfl rfl rfl rfl rfl rfl ?_
    first | refine G.pickT rfl trivial rfl rfl rfl rfl ?_ | refine G.pickF rfl trivial rfl rfl rfl rfl ?_
    refine G.assignB rfl trivial rfl rfl rfl ?_
    refine G.nil ?_
    refine C.condT rfl ?_
    refine C.seq ?_
    refine C.region ?_
    refine G.assignI rfl trivial rfl rfl rfl ?_
    refine G.nil ?_
    refine C.ret ?_
    -- end g11T
    exact ⟨rfl, _, Res.of (rs := [.tmp 4]) rfl rfl, rfl, by rw [if_pos (.inl hg11)]; rfl⟩
  · intro hg11
    refine G.moveI rfl ⟨_, rfl, rfl, rfl⟩ rfl rfl rfl ?_
    refine G.bin rfl ⟨_, rfl, rfl, rfl⟩ rfl rfl rfl rfl rfl ?_
    first | refine G.pickT rfl trivial rfl rfl rfl rfl ?_ | refine G.pickF rfl trivial rfl rfl rfl rfl ?_
    refine G.assignB rfl trivial rfl rfl rfl ?_
    refine G.nil ?_
    refine C.cond _ rfl ?_ ?_
    · intro hc1
      refine C.seq ?_
      refine C.region ?_
      refine G.assignI rfl trivial rfl rfl rfl ?_
      refine G.nil ?_
      refine C.ret ?_
      -- end g11Fc1T
      exact ⟨rfl, _, Res.of (rs := [.tmp 4]) rfl rfl, rfl, by rw [if_pos (.inr (by omega))]; rfl⟩
    · intro hc1
      refine C.skip ?_
      refine C.seq ?_
      refine C.region ?_
      refine G.assignI rfl trivial rfl rfl rfl ?_
      refine G.nil ?_
      refine C.ret ?_
      -- end g11Fc1F
      exact ⟨rfl, _, Res.of (rs := [.tmp 4]) rfl rfl, rfl, by rw [if_neg (by omega)]; rfl⟩
theorem sbelow_ok (L : List Seg) (bm : Nat) (pv : Value) (es : Ent) (ck : Nat) (S : Seg) (R : Ans) (h : Below1 W0 pv S R) (no : Int) (hno : -9223372036854775808 ≤ no ∧ no ≤ 9223372036854775807) (xs : List UInt8) (hR : R no = .ok xs) :
    FnS Try.prog W0 25 #[ptr bs, .int .i64 no] (shS bs bm pv :: [(bm, mapO .i64 es ck)] :: S :: L) (fun e L' => ∃ a c so, OwnS (.slice a xs.length c) xs.length (bytesV xs) 5 1 so ∧ L' = so :: shS bs bm pv :: [(bm, mapO .i64 es ck)] :: S :: L ∧ e = .returned (.tuple #[.slice a xs.length c, .int .i64 0])) := by
  cases h with
  | none => cases hR
  | @some t f x S R hs =>
  have hsm := hs.small no xs hR
  have hpg := hs.page (shS bs bm (.iface t x) :: [(bm, mapO .i64 es ck)] :: L) no hno
  rw [hR] at hpg
  refine FnS.of (args := [ptr bs, .int .i64 no]) Try.func25 rfl rfl ?_
  refine C.seq ?_
  refine C.region ?_
  refine G.assignS rfl trivial rfl rfl rfl ?_
  refine G.assignI rfl trivial rfl rfl rfl ?_
  refine G.nil ?_
  refine C.seq ?_
  refine C.seq ?_
  refine C.region ?_
  refine G.moveP rfl trivial rfl rfl rfl ?_
  first | refine G.nilCheckP rfl trivial rfl rfl rfl ?_ | refine G.nilCheckF rfl trivial rfl rfl rfl ?_
  refine G.fieldAddr rfl trivial rfl rfl Try.underlying58 rfl I55 rfl rfl ?_
  refine G.loadAt (v := .iface t x) .here rfl trivial rfl rfl Try.underlying55 rfl rfl rfl ?_
  refine G.ifEq rfl trivial rfl rfl Try.underlying55 rfl rfl ?_
  refine G.fix (d := 12) (v := .bool false) rfl ?_
  refine G.nil ?_
  refine C.condF rfl ?_
  refine C.skip ?_
  refine C.seq ?_
  refine C.region ?_
  refine G.moveP rfl trivial rfl rfl rfl ?_
  first | refine G.nilCheckP rfl trivial rfl rfl rfl ?_ | refine G.nilCheckF rfl trivial rfl rfl rfl ?_
  refine G.fieldAddr rfl trivial rfl rfl Try.underlying58 rfl I55 rfl rfl ?_
  refine G.loadAt (v := .iface t x) .here rfl trivial rfl rfl Try.underlying55 rfl rfl rfl ?_
  refine G.moveI rfl trivial rfl rfl rfl ?_
  refine G.invokeP hs.ent hs.meth rfl rfl rfl trivial rfl rfl (FnS.perm hpg P3) rfl ?_
  rintro e L2 ⟨a19, c19, s19, hv19, rfl, rfl⟩
  obtain ⟨az, cz, hae, hr19⟩ := hv19.form
  cases hae
  refine G.moveU rfl trivial rfl rfl rfl ?_
  refine G.extractL rfl trivial rfl rfl rfl rfl ?_
  refine G.extractL rfl trivial rfl rfl rfl rfl ?_
  refine G.assignS rfl trivial rfl rfl rfl ?_
  refine G.assignI rfl trivial rfl rfl rfl ?_
  refine G.nil ?_
  refine C.seq ?_
  refine C.seq ?_
  refine C.region ?_
  refine G.moveI rfl trivial rfl rfl rfl ?_
  refine G.bin rfl trivial rfl rfl rfl rfl rfl ?_
  refine G.nil ?_
  refine C.no rfl (by simp) ?_
  refine C.skip ?_
  refine C.seq ?_
  refine C.region ?_
  refine G.moveS rfl trivial rfl rfl rfl ?_
  refine G.call E30 rfl rfl trivial rfl rfl (cloneA_any W0 _ a19 c19 xs hsm (hr19 _ _)) rfl ?_
  rintro e L2 ⟨v26, s26, hv26, rfl, rfl⟩
  obtain ⟨a26, c26, rfl, _⟩ := hv26.form
  refine G.assignS rfl trivial rfl rfl rfl ?_
  refine G.assignI rfl trivial rfl rfl rfl ?_
  refine G.nil ?_
  refine C.less (L' := s26 :: shS bs bm (.iface t x) :: [(bm, mapO .i64 es ck)] :: S :: L) (fun _ h => (h.skip1.of_flat ((List.perm_append_comm_assoc [S] [shS bs bm (.iface t x), [(bm, mapO .i64 es ck)]] L).cons s26).flatten)) ?_
  refine C.ret ?_
  -- end 
  exact ⟨rfl, _, Res.of (rs := [.tmp 4, .tmp 5]) rfl rfl, a26, c26, s26, hv26, rfl, rfl⟩
theorem sbelow_nil (L : List Seg) (bm : Nat) (es : Ent) (ck : Nat) (no : Int) :
    FnS Try.prog W0 25 #[ptr bs, .int .i64 no] (shS bs bm .nilIface :: [(bm, mapO .i64 es ck)] :: [] :: L) (fun e L' => L' = shS bs bm .nilIface :: [(bm, mapO .i64 es ck)] :: [] :: L ∧ e = .returned (.tuple #[nilS, .int .i64 5])) := by
  refine FnS.of (args := [ptr bs, .int .i64 no]) Try.func25 rfl rfl ?_
  refine C.seq ?_
  refine C.region ?_
  refine G.assignS rfl trivial rfl rfl rfl ?_
  refine G.assignI rfl trivial rfl rfl rfl ?_
  refine G.nil ?_
  refine C.seq ?_
  refine C.seq ?_
  refine C.region ?_
  refine G.moveP rfl trivial rfl rfl rfl ?_
  first | refine G.nilCheckP rfl trivial rfl rfl rfl ?_ | refine G.nilCheckF rfl trivial rfl rfl rfl ?_
  refine G.fieldAddr rfl trivial rfl rfl Try.underlying58 rfl I55 rfl rfl ?_
  refine G.loadAt (v := .nilIface) .here rfl trivial rfl rfl Try.underlying55 rfl rfl rfl ?_
  refine G.ifNil rfl trivial rfl rfl Try.underlying55 rfl ?_
  refine G.nil ?_
  refine C.condT rfl ?_
  refine C.seq ?_
  refine C.region ?_
  refine G.assignS rfl trivial rfl rfl rfl ?_
  refine G.assignI rfl trivial rfl rfl rfl ?_
  refine G.nil ?_
  refine C.ret ?_
  -- end 
  exact ⟨rfl, _, Res.of (rs := [.tmp 4, .tmp 5]) rfl rfl, rfl, rfl⟩
theorem sbelow_err (L : List Seg) (bm : Nat) (pv : Value) (es : Ent) (ck : Nat) (S : Seg) (R : Ans) (h : Below1 W0 pv S R) (no : Int) (hno : -9223372036854775808 ≤ no ∧ no ≤ 9223372036854775807) (c : Int) (hR : R no = .error c) :
    FnS Try.prog W0 25 #[ptr bs, .int .i64 no] (shS bs bm pv :: [(bm, mapO .i64 es ck)] :: S :: L) (fun e L' => L' = shS bs bm pv :: [(bm, mapO .i64 es ck)] :: S :: L ∧ e = .returned (.tuple #[nilS, .int .i64 c])) := by
  cases h with
  | none =>
    obtain rfl : (5 : Int) = c := by cases hR; rfl
    exact sbelow_nil W0 bs L bm es ck no
  | @some t f x S R hs =>
  have hc := hs.errs no c hR
  have hpg := hs.page (shS bs bm (.iface t x) :: [(bm, mapO .i64 es ck)] :: L) no hno
  rw [hR] at hpg
  refine FnS.of (args := [ptr bs, .int .i64 no]) Try.func25 rfl rfl ?_
  refine C.seq ?_
  refine C.region ?_
  refine G.assignS rfl trivial rfl rfl rfl ?_
  refine G.assignI rfl trivial rfl rfl rfl ?_
  refine G.nil ?_
  refine C.seq ?_
  refine C.seq ?_
  refine C.region ?_
  refine G.moveP rfl trivial rfl rfl rfl ?_
  first | refine G.nilCheckP rfl trivial rfl rfl rfl ?_ | refine G.nilCheckF rfl trivial rfl rfl rfl ?_
  refine G.fieldAddr rfl trivial rfl rfl Try.underlying58 rfl I55 rfl rfl ?_
  refine G.loadAt (v := .iface t x) .here rfl trivial rfl rfl Try.underlying55 rfl rfl rfl ?_
  refine G.ifEq rfl trivial rfl rfl Try.underlying55 rfl rfl ?_
  refine G.fix (d := 12) (v := .bool false) rfl ?_
  refine G.nil ?_
  refine C.condF rfl ?_
  refine C.skip ?_
  refine C.seq ?_
  refine C.region ?_
  refine G.moveP rfl trivial rfl rfl rfl ?_
  first | refine G.nilCheckP rfl trivial rfl rfl rfl ?_ | refine G.nilCheckF rfl trivial rfl rfl rfl ?_
  refine G.fieldAddr rfl trivial rfl rfl Try.underlying58 rfl I55 rfl rfl ?_
  refine G.loadAt (v := .iface t x) .here rfl trivial rfl rfl Try.underlying55 rfl rfl rfl ?_
  refine G.moveI rfl trivial rfl rfl rfl ?_
  refine G.invokeP hs.ent hs.meth rfl rfl rfl trivial rfl rfl (FnS.perm hpg P3) rfl ?_
  rintro e L2 ⟨rfl, rfl⟩
  refine G.moveU rfl trivial rfl rfl rfl ?_
  refine G.extractL rfl trivial rfl rfl rfl rfl ?_
  refine G.extractL rfl trivial rfl rfl rfl rfl ?_
  refine G.assignS rfl trivial rfl rfl rfl ?_
  refine G.assignI rfl trivial rfl rfl rfl ?_
  refine G.nil ?_
  refine C.seq ?_
  refine C.seq ?_
  refine C.region ?_
  refine G.moveI rfl trivial rfl rfl rfl ?_
  refine G.bin rfl trivial rfl rfl rfl rfl rfl ?_
  refine G.nil ?_
  refine C.yes rfl hc ?_
  refine C.seq ?_
  refine C.region ?_
  refine G.moveI rfl trivial rfl rfl rfl ?_
  refine G.assignS rfl trivial rfl rfl rfl ?_
  refine G.assignI rfl trivial rfl rfl rfl ?_
  refine G.nil ?_
  refine C.less (L' := shS bs bm (.iface t x) :: [(bm, mapO .i64 es ck)] :: S :: L) (fun _ h => h.of_flat P3.symm) ?_
  refine C.ret ?_
  -- end 
  exact ⟨rfl, _, Res.of (rs := [.tmp 4, .tmp 5]) rfl rfl, rfl, rfl⟩
theorem spage_nil (L : List Seg) (no : Int) : FnS Try.prog W0 13 #[.pointer none, .int .i64 no] L (fun e L' => L' = L ∧ e = .returned (.tuple #[nilS, .int .i64 5])) := by
  refine FnS.of (args := [.pointer none, .int .i64 no]) Try.func13 rfl rfl ?_
  refine C.seq ?_
  refine C.region ?_
  refine G.assignS rfl trivial rfl rfl rfl ?_
  refine G.assignI rfl trivial rfl rfl rfl ?_
  refine G.nil ?_
  refine C.seq ?_
  refine C.seq ?_
  refine C.region ?_
  refine G.moveP rfl trivial rfl rfl rfl ?_
  refine G.moveI rfl trivial rfl rfl rfl ?_
  refine G.call E24 rfl rfl trivial rfl rfl (smay_nil W0 _ no) rfl ?_
  rintro e L2 ⟨rfl, rfl⟩
  refine G.assignI rfl trivial rfl rfl rfl ?_
  refine G.nil ?_
  refine C.seq ?_
  refine C.region ?_
  refine G.moveI rfl trivial rfl rfl rfl ?_
  refine G.bin rfl trivial rfl rfl rfl rfl rfl ?_
  refine G.nil ?_
  refine C.yes rfl (by decide) ?_
  refine C.seq ?_
  refine C.region ?_
  refine G.moveI rfl trivial rfl rfl rfl ?_
  refine G.assignS rfl trivial rfl rfl rfl ?_
  refine G.assignI rfl trivial rfl rfl rfl ?_
  refine G.nil ?_
  refine C.ret ?_
  -- end 
  exact ⟨rfl, _, Res.of (rs := [.tmp 4, .tmp 5]) rfl rfl, rfl, rfl⟩
theorem spage_ok (L : List Seg) (bm : Nat) (pv : Value) (es : Ent) (ck : Nat) (S : Seg) (R : Ans) (mg : Int → Option (List UInt8)) (hm : MapIs es ck mg) (h : Below1 W0 pv S R) (no : Int) (hno : -9223372036854775808 ≤ no ∧ no ≤ 9223372036854775807) (xs : List UInt8) (hR : shR mg R no = .ok xs) :
    FnS Try.prog W0 13 #[ptr bs, .int .i64 no] (shS bs bm pv :: [(bm, mapO .i64 es ck)] :: S :: L) (fun e L' => ∃ a c so, OwnS (.slice a xs.length c) xs.length (bytesV xs) 5 1 so ∧ L' = so :: shS bs bm pv :: [(bm, mapO .i64 es ck)] :: S :: L ∧ e = .returned (.tuple #[.slice a xs.length c, .int .i64 0])) := by
  have hin : ¬ (no < 0 ∨ 95 < no) := fun h => by unfold shR at hR; rw [if_pos h] at hR; cases hR
  unfold shR at hR
  rw [if_neg hin] at hR
  refine FnS.of (args := [ptr bs, .int .i64 no]) Try.func13 rfl rfl ?_
  refine C.seq ?_
  refine C.region ?_
  refine G.assignS rfl trivial rfl rfl rfl ?_
  refine G.assignI rfl trivial rfl rfl rfl ?_
  refine G.nil ?_
  refine C.seq ?_
  refine C.seq ?_
  refine C.region ?_
  refine G.moveP rfl trivial rfl rfl rfl ?_
  refine G.moveI rfl trivial rfl rfl rfl ?_
  refine G.call E24 rfl rfl trivial rfl rfl (smay_spec W0 bs _ no) rfl ?_
  rintro e L2 ⟨rfl, rfl⟩
  rw [if_neg hin]
  refine G.assignI rfl trivial rfl rfl rfl ?_
  refine G.nil ?_
  refine C.seq ?_
  refine C.region ?_
  refine G.moveI rfl trivial rfl rfl rfl ?_
  refine G.bin rfl trivial rfl rfl rfl rfl rfl ?_
  refine G.nil ?_
  refine C.no rfl (by simp) ?_
  refine C.skip ?_
  refine C.seq ?_
  refine C.seq ?_
  refine C.region ?_
  refine G.moveP rfl trivial rfl rfl rfl ?_
  first | refine G.nilCheckP rfl trivial rfl rfl rfl ?_ | refine G.nilCheckF rfl trivial rfl rfl rfl ?_
  refine G.fieldAddr rfl trivial rfl rfl Try.underlying58 rfl I56 rfl rfl ?_
  refine G.loadAt (v := .map (some bm)) .here rfl trivial rfl rfl Try.underlying56 rfl rfl rfl ?_
  refine G.moveI rfl trivial rfl rfl rfl ?_
  by_cases hf : mg no = none
  ·
    rw [hf] at hR
    refine G.lookupOk (.next .here) rfl trivial rfl rfl Try.underlying56 Try.underlying3 I9 rfl rfl ?_
    rw [hm.val no, hf, Option.map_none, Option.getD_none, Option.isSome_none]
    refine G.moveU rfl trivial rfl rfl rfl ?_
    refine G.extractL rfl trivial rfl rfl rfl rfl ?_
    refine G.extractL rfl trivial rfl rfl rfl rfl ?_
    refine G.assignT rfl trivial rfl rfl rfl ?_
    refine G.assignB rfl trivial rfl rfl rfl ?_
    refine G.nil ?_
    refine C.seq ?_
    refine C.region ?_
    refine G.moveB rfl trivial rfl rfl rfl ?_
    refine G.nil ?_
    refine C.condF rfl ?_
    refine C.skip ?_
    refine C.seq ?_
    refine C.region ?_
    refine G.moveP rfl trivial rfl rfl rfl ?_
    refine G.moveI rfl trivial rfl rfl rfl ?_
    refine G.call E25 rfl rfl trivial rfl rfl (sbelow_ok W0 bs L bm pv es ck S R h no hno xs hR) rfl ?_
    rintro e L2 ⟨a29, c29, s29, hv29, rfl, rfl⟩
    refine G.extractL rfl trivial rfl rfl rfl rfl ?_
    refine G.extractL rfl trivial rfl rfl rfl rfl ?_
    refine G.assignS rfl trivial rfl rfl rfl ?_
    refine G.assignI rfl trivial rfl rfl rfl ?_
    refine G.nil ?_
    refine C.ret ?_
    -- end x21T
    exact ⟨rfl, _, Res.of (rs := [.tmp 4, .tmp 5]) rfl rfl, a29, c29, s29, hv29, rfl, rfl⟩
  ·
    obtain ⟨ys, hys⟩ := Option.ne_none_iff_exists'.1 hf
    rw [hys] at hR
    obtain rfl : ys = xs := by cases hR; rfl
    have hlen := hm.size no ys hys
    refine G.lookupOk (.next .here) rfl trivial rfl rfl Try.underlying56 Try.underlying3 I9 rfl rfl ?_
    rw [hm.val no, hys, Option.map_some, Option.getD_some, Option.isSome_some]
    refine G.moveU rfl trivial rfl rfl rfl ?_
    refine G.extractL rfl trivial rfl rfl rfl rfl ?_
    refine G.extractL rfl trivial rfl rfl rfl rfl ?_
    refine G.assignT rfl trivial rfl rfl rfl ?_
    refine G.assignB rfl trivial rfl rfl rfl ?_
    refine G.nil ?_
    refine C.seq ?_
    refine C.region ?_
    refine G.moveB rfl trivial rfl rfl rfl ?_
    refine G.nil ?_
    refine C.condT rfl ?_
    refine C.seq ?_
    refine C.region ?_
    refine G.moveT rfl trivial rfl rfl rfl ?_
    refine G.strBytes rfl trivial rfl rfl Try.underlying9 Try.underlying22 Try.underlying5 rfl ?_
    intro b26 c26 hc26
    refine G.assignS rfl trivial rfl rfl rfl ?_
    refine G.assignI rfl trivial rfl rfl rfl ?_
    refine G.nil ?_
    refine C.ret ?_
    -- end x21F
    have hsz : (strB ys).size = ys.length := strB_size ys
    rw [hsz] at hc26
    exact ⟨rfl, _, Res.of (rs := [.tmp 4, .tmp 5]) rfl rfl, some ⟨b26, 0, none⟩, c26, [(b26, .row (bytesV ys) 5 c26)], OwnS.mk (by rw [bytesV_length]; omega) (by omega) hc26, by rw [toList_strB], by rw [hsz]; rfl⟩
theorem spage_out (L : List Seg) (no : Int) (hin : no < 0 ∨ 95 < no) :
    FnS Try.prog W0 13 #[ptr bs, .int .i64 no] L (fun e L' => L' = L ∧ e = .returned (.tuple #[nilS, .int .i64 3])) := by
  refine FnS.of (args := [ptr bs, .int .i64 no]) Try.func13 rfl rfl ?_
  refine C.seq ?_
  refine C.region ?_
  refine G.assignS rfl trivial rfl rfl rfl ?_
  refine G.assignI rfl trivial rfl rfl rfl ?_
  refine G.nil ?_
  refine C.seq ?_
  refine C.seq ?_
  refine C.region ?_
  refine G.moveP rfl trivial rfl rfl rfl ?_
  refine G.moveI rfl trivial rfl rfl rfl ?_
  refine G.call E24 rfl rfl trivial rfl rfl (smay_spec W0 bs _ no) rfl ?_
  rintro e L2 ⟨rfl, rfl⟩
  rw [if_pos hin]
  refine G.assignI rfl trivial rfl rfl rfl ?_
  refine G.nil ?_
  refine C.seq ?_
  refine C.region ?_
  refine G.moveI rfl trivial rfl rfl rfl ?_
  refine G.bin rfl trivial rfl rfl rfl rfl rfl ?_
  refine G.nil ?_
  refine C.yes rfl (by decide) ?_
  refine C.seq ?_
  refine C.region ?_
  refine G.moveI rfl trivial rfl rfl rfl ?_
  refine G.assignS rfl trivial rfl rfl rfl ?_
  refine G.assignI rfl trivial rfl rfl rfl ?_
  refine G.nil ?_
  refine C.ret ?_
  -- end 
  exact ⟨rfl, _, Res.of (rs := [.tmp 4, .tmp 5]) rfl rfl, rfl, rfl⟩
theorem spage_err (L : List Seg) (bm : Nat) (pv : Value) (es : Ent) (ck : Nat) (S : Seg) (R : Ans) (mg : Int → Option (List UInt8)) (hm : MapIs es ck mg) (h : Below1 W0 pv S R) (no : Int) (hno : -9223372036854775808 ≤ no ∧ no ≤ 9223372036854775807) (c : Int) (hR : shR mg R no = .error c) :
    FnS Try.prog W0 13 #[ptr bs, .int .i64 no] (shS bs bm pv :: [(bm, mapO .i64 es ck)] :: S :: L) (fun e L' => L' = shS bs bm pv :: [(bm, mapO .i64 es ck)] :: S :: L ∧ e = .returned (.tuple #[nilS, .int .i64 c])) := by
  by_cases hin : no < 0 ∨ 95 < no
  · obtain rfl : (3 : Int) = c := by unfold shR at hR; rw [if_pos hin] at hR; cases hR; rfl
    exact spage_out W0 bs _ no hin
  unfold shR at hR
  rw [if_neg hin] at hR
  have hf : mg no = none := by
    cases hq : mg no with
    | none => rfl
    | some ys => rw [hq] at hR; cases hR
  rw [hf] at hR
  refine FnS.of (args := [ptr bs, .int .i64 no]) Try.func13 rfl rfl ?_
  refine C.seq ?_
  refine C.region ?_
  refine G.assignS rfl trivial rfl rfl rfl ?_
  refine G.assignI rfl trivial rfl rfl rfl ?_
  refine G.nil ?_
  refine C.seq ?_
  refine C.seq ?_
  refine C.region ?_
  refine G.moveP rfl trivial rfl rfl rfl ?_
  refine G.moveI rfl trivial rfl rfl rfl ?_
  refine G.call E24 rfl rfl trivial rfl rfl (smay_spec W0 bs _ no) rfl ?_
  rintro e L2 ⟨rfl, rfl⟩
  rw [if_neg hin]
  refine G.assignI rfl trivial rfl rfl rfl ?_
  refine G.nil ?_
  refine C.seq ?_
  refine C.region ?_
  refine G.moveI rfl trivial rfl rfl rfl ?_
  refine G.bin rfl trivial rfl rfl rfl rfl rfl ?_
  refine G.nil ?_
  refine C.no rfl (by simp) ?_
  refine C.skip ?_
  refine C.seq ?_
  refine C.seq ?_
  refine C.region ?_
  refine G.moveP rfl trivial rfl rfl rfl ?_
  first | refine G.nilCheckP rfl trivial rfl rfl rfl ?_ | refine G.nilCheckF rfl trivial rfl rfl rfl ?_
  refine G.fieldAddr rfl trivial rfl rfl Try.underlying58 rfl I56 rfl rfl ?_
  refine G.loadAt (v := .map (some bm)) .here rfl trivial rfl rfl Try.underlying56 rfl rfl rfl ?_
  refine G.moveI rfl trivial rfl rfl rfl ?_
  refine G.lookupOk (.next .here) rfl trivial rfl rfl Try.underlying56 Try.underlying3 I9 rfl rfl ?_
  rw [hm.val no, hf, Option.map_none, Option.getD_none, Option.isSome_none]
  refine G.moveU rfl trivial rfl rfl rfl ?_
  refine G.extractL rfl trivial rfl rfl rfl rfl ?_
  refine G.extractL rfl trivial rfl rfl rfl rfl ?_
  refine G.assignT rfl trivial rfl rfl rfl ?_
  refine G.assignB rfl trivial rfl rfl rfl ?_
  refine G.nil ?_
  refine C.seq ?_
  refine C.region ?_
  refine G.moveB rfl trivial rfl rfl rfl ?_
  refine G.nil ?_
  refine C.condF rfl ?_
  refine C.skip ?_
  refine C.seq ?_
  refine C.region ?_
  refine G.moveP rfl trivial rfl rfl rfl ?_
  refine G.moveI rfl trivial rfl rfl rfl ?_
  refine G.call E25 rfl rfl trivial rfl rfl (sbelow_err W0 bs L bm pv es ck S R h no hno c hR) rfl ?_
  rintro e L2 ⟨rfl, rfl⟩
  refine G.extractL rfl trivial rfl rfl rfl rfl ?_
  refine G.extractL rfl trivial rfl rfl rfl rfl ?_
  refine G.assignS rfl trivial rfl rfl rfl ?_
  refine G.assignI rfl trivial rfl rfl rfl ?_
  refine G.nil ?_
  refine C.ret ?_
  -- end 
  exact ⟨rfl, _, Res.of (rs := [.tmp 4, .tmp 5]) rfl rfl, rfl, rfl⟩
theorem sheet_src {mg : Int → Option (List UInt8)} {R : Ans} {S s : Seg} (h : ShIs W0 bs mg R S s) : Src W0 30 13 (ptr bs) s (shR mg R) := by
  obtain ⟨bm, pv, es, ck, hm, hb, rfl⟩ := h
  refine ⟨E13, MethP.of (by kernel_rfl) Try.underlying30, fun L no hno => ?_, fun no xs hR => ?_, fun no c hR => ?_⟩
  · have hp : (((bs, SObj.row [pv, .map (some bm)] 58 2) :: (bm, mapO .i64 es ck) :: S) :: L).flatten.Perm (shS bs bm pv :: [(bm, mapO .i64 es ck)] :: S :: L).flatten := by simp
    cases hR : shR mg R no with
    | ok xs =>
      refine ((spage_ok W0 bs L bm pv es ck S R mg hm hb no hno xs hR).perm hp).drop fun e L' ⟨a, c, so, h1, h2, h3⟩ => ?_
      exact ⟨so :: ((bs, .row [pv, .map (some bm)] 58 2) :: (bm, mapO .i64 es ck) :: S) :: L, fun w hw => by subst h2; exact hw.of_flat (by simp), a, c, so, h1, rfl, h3⟩
    | error c =>
      exact FnS.read (spage_err W0 bs L bm pv es ck S R mg hm hb no hno c hR) hp
  · unfold shR at hR
    split at hR
    · cases hR
    · split at hR
      · rename_i ys hy
        cases hR
        have := hm.size no _ hy
        omega
      · cases hb with
        | none => cases hR
        | some hs => exact hs.small no xs hR
  · unfold shR at hR
    split at hR
    · cases hR; decide
    · split at hR
      · cases hR
      · cases hb with
        | none => cases hR; decide
        | some hs => exact hs.errs no c hR
def setC (no : Int) (n : Nat) : Int := if no < 0 ∨ 95 < no then 3 else if n ≠ 256 then 1 else 0
theorem sset_nil (L : List Seg) (no : Int) (v : Value) : FnS Try.prog W0 12 #[.pointer none, .int .i64 no, v] L (fun e L' => L' = L ∧ e = .returned (.int .i64 5)) := by
  refine FnS.of (args := [.pointer none, .int .i64 no, v]) Try.func12 rfl rfl ?_
  refine C.seq ?_
  refine C.region ?_
  refine G.assignI rfl trivial rfl rfl rfl ?_
  refine G.nil ?_
  refine C.seq ?_
  refine C.seq ?_
  refine C.region ?_
  refine G.moveP rfl trivial rfl rfl rfl ?_
  refine G.moveI rfl trivial rfl rfl rfl ?_
  refine G.call E24 rfl rfl trivial rfl rfl (smay_nil W0 _ no) rfl ?_
  rintro e L2 ⟨rfl, rfl⟩
  refine G.assignI rfl trivial rfl rfl rfl ?_
  refine G.nil ?_
  refine C.seq ?_
  refine C.region ?_
  refine G.moveI rfl trivial rfl rfl rfl ?_
  refine G.bin rfl trivial rfl rfl rfl rfl rfl ?_
  refine G.nil ?_
  refine C.yes rfl (by decide) ?_
  refine C.seq ?_
  refine C.region ?_
  refine G.moveI rfl trivial rfl rfl rfl ?_
  refine G.assignI rfl trivial rfl rfl rfl ?_
  refine G.nil ?_
  refine C.ret ?_
  -- end 
  exact ⟨rfl, _, Res.of (rs := [.tmp 6]) rfl rfl, rfl, rfl⟩
theorem sset_spec (L : List Seg) (mg : Int → Option (List UInt8)) (R : Ans) (S s : Seg) (h : ShIs W0 bs mg R S s) (no : Int) (a : Option Addr) (c : Nat) (xs : List UInt8) (hr : Rd W0 L a (bytesV xs)) :
    FnS Try.prog W0 12 #[ptr bs, .int .i64 no, .slice a xs.length c] (s :: L) (fun e L' => ∃ s', ShIs W0 bs (if setC no xs.length = 0 then setM mg no xs else mg) R S s' ∧ L' = s' :: L ∧ e = .returned (.int .i64 (setC no xs.length))) := by
  have hh := h
  obtain ⟨bm, pv, es, ck, hm, hb, rfl⟩ := h
  refine FnS.perm (L' := shS bs bm pv :: [(bm, mapO .i64 es ck)] :: S :: L) ?_ (by simp)
  refine FnS.of (args := [ptr bs, .int .i64 no, .slice a xs.length c]) Try.func12 rfl rfl ?_
  refine C.seq ?_
  refine C.region ?_
  refine G.assignI rfl trivial rfl rfl rfl ?_
  refine G.nil ?_
  refine C.seq ?_
  refine C.seq ?_
  refine C.region ?_
  refine G.moveP rfl trivial rfl rfl rfl ?_
  refine G.moveI rfl trivial rfl rfl rfl ?_
  refine G.call E24 rfl rfl trivial rfl rfl (smay_spec W0 bs _ no) rfl ?_
  rintro e L2 ⟨rfl, rfl⟩
  refine G.assignI rfl trivial rfl rfl rfl ?_
  refine G.nil ?_
  refine C.seq ?_
  refine C.region ?_
  refine G.moveI rfl trivial rfl rfl rfl ?_
  by_cases hin : no < 0 ∨ 95 < no
  ·
    rw [if_pos hin]
    refine G.bin rfl trivial rfl rfl rfl rfl rfl ?_
    refine G.nil ?_
    refine C.yes rfl (by decide) ?_
    refine C.seq ?_
    refine C.region ?_
    refine G.moveI rfl trivial rfl rfl rfl ?_
    refine G.assignI rfl trivial rfl rfl rfl ?_
    refine G.nil ?_
    refine C.less (L' := ((bs, .row [pv, .map (some bm)] 58 2) :: (bm, mapO .i64 es ck) :: S) :: L) (fun _ h => h.of_flat (by simp)) ?_
    refine C.ret ?_
    -- end x12T
    have hc : setC no xs.length = 3 := by unfold setC; rw [if_pos hin]
    rw [hc, if_neg (by decide)]
    exact ⟨rfl, _, Res.of (rs := [.tmp 6]) rfl rfl, _, hh, rfl, rfl⟩
  ·
    rw [if_neg hin]
    refine G.bin rfl trivial rfl rfl rfl rfl rfl ?_
    refine G.nil ?_
    refine C.no rfl (by decide) ?_
    refine C.skip ?_
    refine C.seq ?_
    refine C.seq ?_
    refine C.region ?_
    refine G.moveS rfl trivial rfl rfl rfl ?_
    refine G.lenSlice rfl trivial rfl rfl Try.underlying22 rfl ?_
    refine G.bin rfl trivial rfl rfl rfl rfl rfl ?_
    refine G.nil ?_
    refine C.cond _ rfl ?_ ?_
    · intro hc1
      refine C.seq ?_
      refine C.region ?_
      refine G.assignI rfl trivial rfl rfl rfl ?_
      refine G.nil ?_
      refine C.less (L' := ((bs, .row [pv, .map (some bm)] 58 2) :: (bm, mapO .i64 es ck) :: S) :: L) (fun _ h => h.of_flat (by simp)) ?_
      refine C.ret ?_
      -- end x12Fc1T
      have hc : setC no xs.length = 1 := by unfold setC; rw [if_neg hin, if_pos (by omega)]
      rw [hc, if_neg (by decide)]
      exact ⟨rfl, _, Res.of (rs := [.tmp 6]) rfl rfl, _, hh, rfl, rfl⟩
    · intro hc1
      refine C.skip ?_
      refine C.seq ?_
      refine C.drawn mixed (_) [7] (fun _ h => h) ?_
      refine GA.pure (i := 0) (fun _ _ _ _ _ h => h) rfl (by kernel_rfl) trivial rfl rfl (Y.moveP rfl rfl) (#[true, false, false, false, false, false, false, false]) (by kernel_rfl) ?_
      first | refine GA.pure (i := 1) (fun _ _ _ _ _ h => h) rfl (by kernel_rfl) trivial rfl rfl (Y.nilCheckP rfl rfl) (#[true, true, false, false, false, false, false, false]) (by kernel_rfl) ?_ | refine GA.pure (i := 1) (fun _ _ _ _ _ h => h) rfl (by kernel_rfl) trivial rfl rfl (Y.nilCheckF rfl rfl) (#[true, true, false, false, false, false, false, false]) (by kernel_rfl) ?_
      refine GA.pure (i := 2) (fun _ _ _ _ _ h => h) rfl (by kernel_rfl) trivial rfl rfl (Y.fieldAddr rfl Try.underlying58 rfl I56 rfl rfl) (#[true, true, true, false, false, false, false, false]) (by kernel_rfl) ?_
      refine GA.read (i := 3) (fun _ _ _ _ _ h => h) rfl (by kernel_rfl) (by kernel_rfl) trivial rfl rfl (Y.loadAt (v := .map (some bm)) .here rfl Try.underlying56 rfl rfl rfl) (#[true, true, true, true, false, false, false, false]) (by kernel_rfl) ?_
      refine GA.pure (i := 4) (fun _ _ _ _ _ h => h) rfl (by kernel_rfl) trivial rfl rfl (Y.moveI rfl rfl) (#[true, true, true, true, true, false, false, false]) (by kernel_rfl) ?_
      refine GA.pure (i := 5) (fun _ _ _ _ _ h => h) rfl (by kernel_rfl) trivial rfl rfl (Y.moveS rfl rfl) (#[true, true, true, true, true, true, false, false]) (by kernel_rfl) ?_
      refine GA.read (i := 6) (fun _ _ _ _ _ h => h) rfl (by kernel_rfl) (by kernel_rfl) trivial rfl rfl (Y.bytesStr xs rfl Try.underlying22 Try.underlying5 Try.underlying9 rfl rfl hr.cons.cons.cons) (#[true, true, true, true, true, true, true, false]) (by kernel_rfl) ?_
      refine GA.one (i := 7) rfl (by kernel_rfl) (#[true, true, true, true, true, true, true, true]) (by kernel_rfl) ?_
      refine G.mapUpdate (v := .string (strB xs)) (.next .here) rfl trivial rfl Try.underlying56 Try.underlying3 rfl rfl rfl ?_
      refine G.nil ?_
      refine ⟨fun _ h => absurd h (by simp [hit]), ?_⟩
      refine GA.done (by kernel_rfl) ?_
      refine C.seq ?_
      refine C.region ?_
      refine G.assignI rfl trivial rfl rfl rfl ?_
      refine G.nil ?_
      refine C.less (L' := ((bs, .row [pv, .map (some bm)] 58 2) :: (bm, mapO .i64 (mput es ck no (.string (strB xs))).1 (mput es ck no (.string (strB xs))).2) :: S) :: L) (fun _ h => h.of_flat (by simp)) ?_
      refine C.ret ?_
      -- end x12Fc1F
      have hc : setC no xs.length = 0 := by unfold setC; rw [if_neg hin, if_neg (by omega)]
      rw [hc, if_pos rfl]
      exact ⟨rfl, _, Res.of (rs := [.tmp 6]) rfl rfl, _, ⟨bm, pv, _, _, hm.put (by omega) (by omega), hb, rfl⟩, rfl, rfl⟩
theorem snew_spec (L : List Seg) (pv : Value) (S : Seg) (R : Ans) (h : Below1 W0 pv S R) :
    FnS Try.prog W0 11 #[pv] (S :: L) (fun e L' => ∃ bs s, ShIs W0 bs (fun _ => none) R S s ∧ L' = s :: L ∧ e = .returned (ptr bs)) := by
  have hcells : cellsOk pv = true ∧ pv.cells = #[pv] := by cases h <;> exact ⟨rfl, rfl⟩
  refine FnS.of (args := [pv]) Try.func11 rfl rfl ?_
  refine C.seq ?_
  refine C.region ?_
  refine G.assignP rfl trivial rfl rfl rfl ?_
  refine G.nil ?_
  refine C.seq ?_
  refine C.region ?_
  refine G.move pv rfl trivial rfl rfl rfl ?_
  refine G.makeMap (kd := .i64) rfl trivial rfl rfl ?_
  intro bm
  refine G.buildL (cs := [pv, .map (some bm)]) rfl trivial rfl rfl Try.underlying58 I58 B58 rfl (by cases h <;> rfl) ?_
  refine G.boxG rfl trivial rfl rfl rfl ?_
  intro bs
  refine G.assignP rfl trivial rfl rfl rfl ?_
  refine G.nil ?_
  refine C.less (L' := ((bs, .row [pv, .map (some bm)] 58 2) :: (bm, mapO .i64 [] 0) :: S) :: L) (fun _ h => h.of_flat (by simp)) ?_
  refine C.ret ?_
  -- end 
  exact ⟨rfl, _, Res.of (rs := [.tmp 2]) rfl rfl, bs, _, ⟨bm, pv, [], 0, MapIs.empty, h, rfl⟩, rfl, rfl⟩
end sheet
end Sht
end Go.Proofs.Ytgfdghhojnmaoaa
