/-
  The log: all cut away; made; walked.
-/
import Derived.Test.YtjfjmhmfhkdcbabWl6
namespace Go.Proofs.Ytjfjmhmfhkdcbab
open Go Go.SL Go.RowKit

def Lg.cut (g : Lg) (fs us : List (List UInt8)) : Lg := { g with base := g.end_, forced := g.base + size (fs ++ us.take us.length), ends := g.ends.drop us.length }
theorem Lok.cut {g : Lg} {fs us : List (List UInt8)} (h : Lok g fs us) : Lok (g.cut fs us) [] [] := by
  have e : g.base + size (fs ++ us.take us.length) = g.end_ := by rw [List.take_length, size_append, h.end_, h.forced]; omega
  refine ⟨h.bad, e, ?_, by simp [size_nil], fun b hb => by simp at hb, ?_, Has.nil _ _⟩
  · show g.end_ = g.base + size (fs ++ us.take us.length) + size []
    rw [e]; rfl
  · show g.ends.drop us.length = []
    rw [h.ends, List.drop_of_length_le (by rw [endsOf_length]; exact Nat.le_refl _)]
theorem Lok.cutIs {g : Lg} {fs us : List (List UInt8)} (h : Lok g fs us) : (g.cut fs us).forced = g.end_ := by
  show g.base + size (fs ++ us.take us.length) = g.end_
  rw [List.take_length, size_append, h.end_, h.forced]; omega
/-- what a cut leaves -/
def Cuts (bg bs bd : Nat) (g : Lg) (d : Dv) (t : Nat) (fs us : List (List UInt8)) (e : Int) (sg' sp' : Seg) (d' : Dv) : Prop :=
  (d.live → d'.live) ∧
  ((e = 0 ∧ ∃ p' t', t' ≤ t + 2 ∧ LgIs bg bs bd (g.cut fs us) sg' ∧ SpIs bs bd p' sp' ∧ Wd d' p' t' g.end_ []) ∨
    (e = 5 ∧ ¬ d.live ∧ d'.ok ∧ d'.l.length = 1410 ∧ ∀ ks, ∃ p' t', t' ≤ t + 2 ∧ (Wd (d'.crash ks) p' t' g.base (strm fs) ∨ Wd (d'.crash ks) p' t' g.base (strm (fs ++ us)) ∨ Wd (d'.crash ks) p' t' g.end_ [])))
section
variable (W0 : World) (S L0 : List Seg) (bg bs bd bl : Nat)
theorem cut_nil (L : List Seg) : FnS Try.prog W0 14 #[.pointer none] L (fun r L' => L' = L ∧ r = .returned (.int .i64 5)) := by
  refine FnS.of (args := [.pointer none]) Try.func14 rfl rfl ?_
  refine C.seq ?_
  refine C.region ?_
  refine G.assignI rfl trivial rfl rfl rfl ?_
  refine G.nil ?_
  refine C.seq ?_
  refine C.seq ?_
  refine C.region ?_
  refine G.moveP rfl trivial rfl rfl rfl ?_
  refine G.moveP rfl trivial rfl rfl rfl ?_
  refine G.call E15 rfl rfl trivial rfl rfl (end_nil W0 _) rfl ?_
  rintro e L2 ⟨rfl, rfl⟩
  refine G.call E12 rfl rfl trivial rfl rfl (force_nil W0 _ 0) rfl ?_
  rintro e L2 ⟨rfl, rfl⟩
  refine G.assignI rfl trivial rfl rfl rfl ?_
  refine G.nil ?_
  refine C.seq ?_
  refine C.region ?_
  refine G.moveI rfl trivial rfl rfl rfl ?_
  refine G.bin rfl trivial rfl rfl rfl rfl rfl ?_
  refine G.nil ?_
  refine C.yes rfl (by decide) ?_
  refine C.seq ?_
  refine C.region ?_
  refine G.moveI rfl trivial rfl rfl rfl ?_
  refine G.assignI rfl trivial rfl rfl rfl ?_
  refine G.nil ?_
  refine C.ret ?_
  -- end 
  exact ⟨rfl, _, Res.of (rs := [.tmp 2]) rfl rfl, rfl, rfl⟩
theorem cut_spec (g : Lg) (sg : Seg) (hsg : LgIs bg bs bd g sg) (fs us : List (List UInt8)) (hg : Lok g fs us) (d : Dv) (p : Sp) (sp : Seg) (hsp : SpIs bs bd p sp) (t : Nat) (ht : t < 999998) (hw : Wd d p t g.base (strm fs)) (hbig : g.end_ < 1000000000000) :
    FnS Try.prog W0 14 #[ptr bg] (sg :: sp :: devSeg bd bl d :: L0) (fun r L' => ∃ sg' sp' d' e, L' = sg' :: sp' :: devSeg bd bl d' :: L0 ∧ Cuts bg bs bd g d t fs us e sg' sp' d' ∧ r = .returned (.int .i64 e)) := by
  refine FnS.of (args := [ptr bg]) Try.func14 rfl rfl ?_
  refine C.seq ?_
  refine C.region ?_
  refine G.assignI rfl trivial rfl rfl rfl ?_
  refine G.nil ?_
  refine C.seq ?_
  refine C.seq ?_
  refine C.region ?_
  refine G.moveP rfl trivial rfl rfl rfl ?_
  refine G.moveP rfl trivial rfl rfl rfl ?_
  refine G.call E15 rfl rfl trivial rfl rfl (end_spec W0 [] _ bg bs bd g sg hsg) rfl ?_
  rintro e L2 ⟨rfl, rfl⟩
  refine G.call E12 rfl rfl trivial rfl rfl (force_spec W0 L0 bg bs bd bl g sg hsg fs us hg d p sp hsp t (by omega) hw hbig g.end_) rfl ?_
  rintro e L2 ⟨sg1, sp1, d1, e1, n, rfl, hn, hfar, hmore, ⟨hlv, hcase⟩, rfl⟩
  have hnu : n = us.length := by
    rcases Nat.lt_or_ge n us.length with h | h
    · have h1 := hmore h
      have h2 := size_take_le us (n + 1)
      have h3 := hg.end_
      omega
    · omega
  subst hnu
  rw [List.take_length] at hcase
  refine G.assignI rfl trivial rfl rfl rfl ?_
  refine G.nil ?_
  refine C.seq ?_
  refine C.region ?_
  refine G.moveI rfl trivial rfl rfl rfl ?_
  refine G.bin rfl trivial rfl rfl rfl rfl rfl ?_
  refine G.nil ?_
  refine C.cond _ rfl ?_ ?_
  · intro hc0
    obtain ⟨he, hn0, q1, q2, q3, q4, q5⟩ := hcase.resolve_left (fun h => hc0 h.1)
    refine C.seq ?_
    refine C.region ?_
    refine G.moveI rfl trivial rfl rfl rfl ?_
    refine G.assignI rfl trivial rfl rfl rfl ?_
    refine G.nil ?_
    refine C.ret ?_
    -- end c0T
    exact ⟨rfl, _, Res.of (rs := [.tmp 2]) rfl rfl, sg1, sp1, d1, e1, rfl, ⟨hlv, .inr ⟨he, q1, q3, q4, fun ks => by (obtain ⟨p2, t2, h1, h2⟩ := q5 ks; exact ⟨p2, t2, by omega, h2.elim .inl (fun h => .inr (.inl h))⟩)⟩⟩, rfl⟩
  · intro hc0
    obtain ⟨he, p1, t1, ht1, ht2, hsg1, hsp1, hok1, hw1⟩ := hcase.resolve_right (fun h => by have := h.1; omega)
    have hcl := hg.cutIs
    obtain ⟨cs, v0, es, hcs, hes, rfl⟩ := hsg1
    obtain ⟨hcase2, hlv2⟩ := hw1.saved g.end_ [] (Has.nil _ _) (Has.nil _ _) (by simp; omega)
    simp only [List.length_nil, Nat.add_zero] at hcase2 hlv2
    have htl := txt_length (b := g.end_) (e := g.end_) (by omega) (by omega)
    refine C.skip ?_
    refine C.seq ?_
    refine C.seq ?_
    refine C.drawn mixed ([_]) [] (fun _ h => Mem.only h) ?_
    refine GA.pure (i := 0) (fun _ _ _ _ _ h => h) rfl (by kernel_rfl) trivial rfl rfl (Y.moveP rfl rfl) (#[true, false, false, false, false, false, false, false, false, false, false, false, false, false, false]) (by kernel_rfl) ?_
    first | refine GA.pure (i := 1) (fun _ _ _ _ _ h => h) rfl (by kernel_rfl) trivial rfl rfl (Y.nilCheckP rfl rfl) (#[true, true, false, false, false, false, false, false, false, false, false, false, false, false, false]) (by kernel_rfl) ?_ | refine GA.pure (i := 1) (fun _ _ _ _ _ h => h) rfl (by kernel_rfl) trivial rfl rfl (Y.nilCheckF rfl rfl) (#[true, true, false, false, false, false, false, false, false, false, false, false, false, false, false]) (by kernel_rfl) ?_
    refine GA.pure (i := 2) (fun _ _ _ _ _ h => h) rfl (by kernel_rfl) trivial rfl rfl (Y.fieldAddr rfl Try.underlying66 rfl I59 rfl rfl) (#[true, true, true, false, false, false, false, false, false, false, false, false, false, false, false]) (by kernel_rfl) ?_
    refine GA.read (i := 3) (fun _ _ _ _ _ h => h) rfl (by kernel_rfl) (by kernel_rfl) trivial rfl rfl (Y.loadAt (v := ptr bs) .here rfl Try.underlying59 rfl rfl rfl) (#[true, true, true, true, false, false, false, false, false, false, false, false, false, false, false]) (by kernel_rfl) ?_
    refine GA.pure (i := 4) (fun _ _ _ _ _ h => h) rfl (by kernel_rfl) trivial rfl rfl (Y.moveP rfl rfl) (#[true, true, true, true, true, false, false, false, false, false, false, false, false, false, false]) (by kernel_rfl) ?_
    first | refine GA.pure (i := 5) (fun _ _ _ _ _ h => h) rfl (by kernel_rfl) trivial rfl rfl (Y.nilCheckP rfl rfl) (#[true, true, true, true, true, true, false, false, false, false, false, false, false, false, false]) (by kernel_rfl) ?_ | refine GA.pure (i := 5) (fun _ _ _ _ _ h => h) rfl (by kernel_rfl) trivial rfl rfl (Y.nilCheckF rfl rfl) (#[true, true, true, true, true, true, false, false, false, false, false, false, false, false, false]) (by kernel_rfl) ?_
    refine GA.pure (i := 6) (fun _ _ _ _ _ h => h) rfl (by kernel_rfl) trivial rfl rfl (Y.fieldAddr rfl Try.underlying66 rfl I2 rfl rfl) (#[true, true, true, true, true, true, true, false, false, false, false, false, false, false, false]) (by kernel_rfl) ?_
    refine GA.read (i := 7) (fun _ _ _ _ _ h => h) rfl (by kernel_rfl) (by kernel_rfl) trivial rfl rfl (Y.loadAt (v := .int .i64 (g.end_ : Int)) .here rfl Try.underlying2 rfl rfl (lr_end hcs.1)) (#[true, true, true, true, true, true, true, true, false, false, false, false, false, false, false]) (by kernel_rfl) ?_
    refine GA.pure (i := 8) (fun _ _ _ _ _ h => h) rfl (by kernel_rfl) trivial rfl rfl (Y.moveP rfl rfl) (#[true, true, true, true, true, true, true, true, true, false, false, false, false, false, false]) (by kernel_rfl) ?_
    first | refine GA.pure (i := 9) (fun _ _ _ _ _ h => h) rfl (by kernel_rfl) trivial rfl rfl (Y.nilCheckP rfl rfl) (#[true, true, true, true, true, true, true, true, true, true, false, false, false, false, false]) (by kernel_rfl) ?_ | refine GA.pure (i := 9) (fun _ _ _ _ _ h => h) rfl (by kernel_rfl) trivial rfl rfl (Y.nilCheckF rfl rfl) (#[true, true, true, true, true, true, true, true, true, true, false, false, false, false, false]) (by kernel_rfl) ?_
    refine GA.pure (i := 10) (fun _ _ _ _ _ h => h) rfl (by kernel_rfl) trivial rfl rfl (Y.fieldAddr rfl Try.underlying66 rfl I2 rfl rfl) (#[true, true, true, true, true, true, true, true, true, true, true, false, false, false, false]) (by kernel_rfl) ?_
    refine GA.read (i := 11) (fun _ _ _ _ _ h => h) rfl (by kernel_rfl) (by kernel_rfl) trivial rfl rfl (Y.loadAt (v := .int .i64 (g.end_ : Int)) .here rfl Try.underlying2 rfl rfl (lr_end hcs.1)) (#[true, true, true, true, true, true, true, true, true, true, true, true, false, false, false]) (by kernel_rfl) ?_
    refine GA.one (i := 12) rfl (by kernel_rfl) (#[true, true, true, true, true, true, true, true, true, true, true, true, true, false, false]) (by kernel_rfl) ?_
    refine G.call E21 rfl rfl trivial rfl rfl (text2_spec W0 _ g.end_ g.end_ (by omega) (by omega)) rfl ?_
    rintro e L2 ⟨v58, s58, hv58, rfl, rfl⟩
    obtain ⟨a58, c58, rfl, hr58⟩ := hv58.form
    refine G.nil ?_
    refine ⟨fun _ _ h => (by first | exact Mem.only h.tail | exact Mem.only h.tail.tail.tail), ?_⟩
    refine GA.less (fun _ h => h.up4.up4) ?_
    refine GA.one (i := 13) rfl (by kernel_rfl) (#[true, true, true, true, true, true, true, true, true, true, true, true, true, true, false]) (by kernel_rfl) ?_
    refine G.call E27 rfl rfl trivial rfl rfl (save_spec W0 _ bs bd bl d1 hw1.ok p1 sp1 hsp1 t1 hw1.sl.turn (by omega) hw1.sl.slot (by rw [hw1.pa, hw1.len]; decide) a58 c58 (txt g.end_ g.end_) (by omega) (fun S => Rd.under hr58 S)) rfl ?_
    rintro e L2 ⟨sp2, rfl, hsp2, rfl⟩
    generalize hsw : swr d1 (p1.at_ + (1 - p1.slot)) (sectS (t1 + 1) (txt g.end_ g.end_)) = sw at *
    refine G.nil ?_
    refine ⟨fun _ _ h => (by first | exact Mem.only h.tail | exact Mem.only h.tail.tail.tail), ?_⟩
    refine GA.pure (i := 14) (fun _ _ _ _ _ h => h) rfl (by kernel_rfl) trivial rfl rfl (Y.assignI rfl rfl) (#[true, true, true, true, true, true, true, true, true, true, true, true, true, true, true]) (by kernel_rfl) ?_
    refine GA.done (by kernel_rfl) ?_
    refine C.seq ?_
    refine C.region ?_
    refine G.moveI rfl trivial rfl rfl rfl ?_
    refine G.bin rfl trivial rfl rfl rfl rfl rfl ?_
    refine G.less (fun _ h => Mem.back4 h) ?_
    refine G.nil ?_
    refine C.cond _ rfl ?_ ?_
    · intro hc1
      obtain ⟨q1, q2, q3, q4, q5⟩ := hcase2.resolve_left (fun h => hc1 h.1)
      refine C.seq ?_
      refine C.region ?_
      refine G.moveP rfl trivial rfl rfl rfl ?_
      first | refine G.nilCheckP rfl trivial rfl rfl rfl ?_ | refine G.nilCheckF rfl trivial rfl rfl rfl ?_
      refine G.fieldAddr rfl trivial rfl rfl Try.underlying66 rfl I4 rfl rfl ?_
      refine G.store (v := .bool true) .here rfl trivial rfl I4 rfl rfl rfl (Nat.lt_of_lt_of_eq (by decide) (lr_length hcs.1).symm) _ (lr_setBad hcs.1 true) ?_
      refine G.nil ?_
      refine C.seq ?_
      refine C.region ?_
      refine G.moveI rfl trivial rfl rfl rfl ?_
      refine G.assignI rfl trivial rfl rfl rfl ?_
      refine G.nil ?_
      refine C.ret ?_
      -- end c0Fc1T
      exact ⟨rfl, _, Res.of (rs := [.tmp 2]) rfl rfl, _, sp2, _, _, rfl, ⟨fun h => hlv2 (hlv h), .inr ⟨q1, fun h => q4 (hlv h), q2, q3, fun ks => by (rcases q5 ks with h | h; exact ⟨p1, t1, by omega, .inr (.inl h)⟩; exact ⟨_, t1 + 1, by omega, .inr (.inr h)⟩)⟩⟩, rfl⟩
    · intro hc1
      obtain ⟨q1, q2⟩ := hcase2.resolve_right (fun h => by have := h.1; omega)
      rw [if_pos q1] at hsp2
      refine C.skip ?_
      refine C.seq ?_
      refine C.region ?_
      refine G.moveP rfl trivial rfl rfl rfl ?_
      refine G.moveP rfl trivial rfl rfl rfl ?_
      first | refine G.nilCheckP rfl trivial rfl rfl rfl ?_ | refine G.nilCheckF rfl trivial rfl rfl rfl ?_
      refine G.fieldAddr rfl trivial rfl rfl Try.underlying66 rfl I2 rfl rfl ?_
      refine G.loadAt (v := .int .i64 (g.end_ : Int)) .here rfl trivial rfl rfl Try.underlying2 rfl rfl (lr_end hcs.1) ?_
      first | refine G.nilCheckP rfl trivial rfl rfl rfl ?_ | refine G.nilCheckF rfl trivial rfl rfl rfl ?_
      refine G.fieldAddr rfl trivial rfl rfl Try.underlying66 rfl I2 rfl rfl ?_
      refine G.store (v := .int .i64 (g.end_ : Int)) .here rfl trivial rfl I2 rfl rfl rfl (Nat.lt_of_lt_of_eq (by decide) (lr_length hcs.1).symm) _ (lr_setBase hcs.1 _) ?_
      refine G.nil ?_
      refine C.seq ?_
      refine C.region ?_
      refine G.assignI rfl trivial rfl rfl rfl ?_
      refine G.nil ?_
      refine C.ret ?_
      -- end c0Fc1F
      exact ⟨rfl, _, Res.of (rs := [.tmp 2]) rfl rfl, _, sp2, _, 0, rfl, ⟨fun h => hlv2 (hlv h), .inl ⟨rfl, _, t1 + 1, by omega, ⟨cs, _, es, hcs, hes, rfl⟩, hsp2, q2⟩⟩, rfl⟩
end
end Go.Proofs.Ytjfjmhmfhkdcbab
