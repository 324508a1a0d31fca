/-
  The log: records forced, all cut away; walked.
-/
import Derived.Test.YtjfjmhmfhkdcbabWl5
namespace Go.Proofs.Ytjfjmhmfhkdcbab
open Go Go.SL Go.RowKit

/-- what the log knows: the records that last, those that do not yet -/
structure Lok (g : Lg) (fs us : List (List UInt8)) : Prop where
  bad : g.bad = false
  forced : g.forced = g.base + size fs
  end_ : g.end_ = g.forced + size us
  room : size fs + size us ≤ 65536
  recs : recsOk (fs ++ us)
  ends : g.ends = endsOf g.forced us
  ring : Has g.R g.base (strm (fs ++ us))
def Lg.force (g : Lg) (fs us : List (List UInt8)) (n : Nat) : Lg := { g with forced := g.base + size (fs ++ us.take n), ends := g.ends.drop n }
theorem Lok.force {g : Lg} {fs us : List (List UInt8)} (h : Lok g fs us) {n : Nat} (hn : n ≤ us.length) : Lok (g.force fs us n) (fs ++ us.take n) (us.drop n) := by
  have e1 : fs ++ us.take n ++ us.drop n = fs ++ us := by rw [List.append_assoc, List.take_append_drop]
  have e2 : size (us.take n) + size (us.drop n) = size us := by rw [← size_append, List.take_append_drop]
  refine ⟨h.bad, rfl, ?_, by rw [size_append]; have := h.room; omega, by rw [e1]; exact h.recs, ?_, by rw [e1]; exact h.ring⟩
  · show g.end_ = g.base + size (fs ++ us.take n) + size (us.drop n)
    rw [h.end_, h.forced, size_append]
    omega
  · show g.ends.drop n = endsOf (g.base + size (fs ++ us.take n)) (us.drop n)
    have h3 := endsOf_append (us.take n) (us.drop n) g.forced
    rw [List.take_append_drop] at h3
    have h4 : (endsOf g.forced (us.take n)).length = n := by rw [endsOf_length, List.length_take, Nat.min_eq_left hn]
    rw [h.ends, h3, List.drop_append_of_le_length (by omega), List.drop_of_length_le (by omega), List.nil_append, h.forced, size_append, Nat.add_assoc]
theorem force0 {g : Lg} {fs us : List (List UInt8)} (h : Lok g fs us) : g.force fs us 0 = g := by
  obtain ⟨R, base, forced, end_, ends, bad⟩ := g
  have h1 := h.forced
  simp only at h1
  simp [Lg.force, h1]
theorem size_pos {rs : List (List UInt8)} (h : size rs = 0) : rs = [] := by
  have := length_le_size rs
  exact List.eq_nil_of_length_eq_zero (by omega)
theorem placesV_at {l : List Nat} {i x : Nat} (h : l[i]? = some x) : (placesV l)[i]? = some (.int .i64 (x : Int)) := by simp [placesV, h]
section
variable (W0 : World) (S L0 : List Seg) (bg bs bd bl : Nat)
theorem force_nil (L : List Seg) (to : Int) : FnS Try.prog W0 12 #[.pointer none, .int .i64 to] L (fun r L' => L' = L ∧ r = .returned (.int .i64 5)) := by
  refine FnS.of (args := [.pointer none, .int .i64 to]) Try.func12 rfl rfl ?_
  refine C.seq ?_
  refine C.region ?_
  refine G.assignI rfl trivial rfl rfl rfl ?_
  refine G.nil ?_
  refine C.seq ?_
  refine C.seq ?_
  refine C.region ?_
  refine G.moveP rfl trivial rfl rfl rfl ?_
  refine G.ptrEq rfl trivial rfl rfl Try.underlying26 rfl rfl ?_
  refine G.moveB rfl trivial rfl rfl rfl ?_
  refine G.skip rfl rfl rfl rfl rfl rfl ?_
  refine G.skip rfl rfl rfl rfl rfl rfl ?_
  refine G.skip rfl rfl rfl rfl rfl rfl ?_
  refine G.skip rfl rfl rfl rfl rfl rfl ?_
  first | refine G.pickT rfl trivial rfl rfl rfl rfl ?_ | refine G.pickF rfl trivial rfl rfl rfl rfl ?_
  refine G.fix (d := 15) (v := .bool true) rfl ?_
  refine G.nil ?_
  refine C.condT rfl ?_
  refine C.seq ?_
  refine C.region ?_
  refine G.assignI rfl trivial rfl rfl rfl ?_
  refine G.nil ?_
  refine C.ret ?_
  -- end 
  exact ⟨rfl, _, Res.of (rs := [.tmp 4]) rfl rfl, rfl, rfl⟩
theorem force_bad (g : Lg) (sg : Seg) (hsg : LgIs bg bs bd g sg) (hbad : g.bad = true) (to : Int) : FnS Try.prog W0 12 #[ptr bg, .int .i64 to] (S ++ (sg :: L0)) (fun r L' => L' = S ++ (sg :: L0) ∧ r = .returned (.int .i64 5)) := by
  obtain ⟨cs, v0, es, hcs, hes, rfl⟩ := hsg
  refine FnS.of (args := [ptr bg, .int .i64 to]) Try.func12 rfl rfl ?_
  refine C.seq ?_
  refine C.region ?_
  refine G.assignI rfl trivial rfl rfl rfl ?_
  refine G.nil ?_
  refine C.seq ?_
  refine C.seq ?_
  refine C.region ?_
  refine G.moveP rfl trivial rfl rfl rfl ?_
  refine G.ptrEq rfl trivial rfl rfl Try.underlying26 rfl rfl ?_
  refine G.moveB rfl trivial rfl rfl rfl ?_
  refine G.moveP rfl ⟨_, rfl, rfl, rfl⟩ rfl rfl rfl ?_
  first | refine G.nilCheckP rfl ⟨_, rfl, rfl, rfl⟩ rfl rfl rfl ?_ | refine G.nilCheckF rfl ⟨_, rfl, rfl, rfl⟩ rfl rfl rfl ?_
  refine G.fieldAddr rfl ⟨_, rfl, rfl, rfl⟩ rfl rfl Try.underlying66 rfl I4 rfl rfl ?_
  refine G.loadAt (v := .bool g.bad) (.app .here) rfl ⟨_, rfl, rfl, rfl⟩ rfl rfl Try.underlying4 rfl rfl (lr_bad hcs.1) ?_
  first | refine G.pickT rfl trivial rfl rfl rfl rfl ?_ | refine G.pickF rfl trivial rfl rfl rfl rfl ?_
  refine G.fix (d := 15) (v := .bool true) (by show Value.bool g.bad = _; rw [hbad]) ?_
  refine G.nil ?_
  refine C.condT rfl ?_
  refine C.seq ?_
  refine C.region ?_
  refine G.assignI rfl trivial rfl rfl rfl ?_
  refine G.nil ?_
  refine C.ret ?_
  -- end 
  exact ⟨rfl, _, Res.of (rs := [.tmp 4]) rfl rfl, rfl, rfl⟩
/-- what a force leaves -/
def Forces (bg bs bd : Nat) (g : Lg) (d : Dv) (p : Sp) (t : Nat) (fs us : List (List UInt8)) (n : Nat) (e : Int) (sg' sp' : Seg) (d' : Dv) : Prop :=
  (d.live → d'.live) ∧
  ((e = 0 ∧ ∃ p' t', t ≤ t' ∧ t' ≤ t + 1 ∧ LgIs bg bs bd (g.force fs us n) sg' ∧ SpIs bs bd p' sp' ∧ Lok (g.force fs us n) (fs ++ us.take n) (us.drop n) ∧ Wd d' p' t' g.base (strm (fs ++ us.take n))) ∨
    (e = 5 ∧ 0 < n ∧ ¬ d.live ∧ LgIs bg bs bd { g with bad := true } sg' ∧ d'.ok ∧ d'.l.length = 1410 ∧ ∀ ks, ∃ p' t', t' ≤ t + 1 ∧ (Wd (d'.crash ks) p' t' g.base (strm fs) ∨ Wd (d'.crash ks) p' t' g.base (strm (fs ++ us.take n)))))
theorem force_spec (g : Lg) (sg : Seg) (hsg : LgIs bg bs bd g sg) (fs us : List (List UInt8)) (hg : Lok g fs us) (d : Dv) (p : Sp) (sp : Seg) (hsp : SpIs bs bd p sp) (t : Nat) (ht : t < 999999) (hw : Wd d p t g.base (strm fs)) (hbig : g.end_ < 1000000000000) (to : Nat) :
    FnS Try.prog W0 12 #[ptr bg, .int .i64 (to : Int)] (sg :: sp :: devSeg bd bl d :: L0) (fun r L' => ∃ sg' sp' d' e n, L' = sg' :: sp' :: devSeg bd bl d' :: L0 ∧ n ≤ us.length ∧ g.forced + size (us.take n) ≤ max to g.forced ∧ (n < us.length → to < g.forced + size (us.take (n + 1))) ∧
      Forces bg bs bd g d p t fs us n e sg' sp' d' ∧ r = .returned (.int .i64 e)) := by
  have hsg0 := hsg
  obtain ⟨cs, v0, es, hcs, hes, rfl⟩ := hsg
  have hel : g.ends.length = us.length := by rw [hg.ends, endsOf_length]
  have hroom := hg.room
  have hend := hg.end_
  have hfo := hg.forced
  have hus := length_le_size us
  obtain ⟨a0, c0, rfl, hac, hr0⟩ := hes.form
  have hat : ∀ i, i < us.length → (placesV g.ends)[i]? = some (.int .i64 ((g.forced + size (us.take (i + 1)) : Nat) : Int)) := fun i hi => placesV_at (by rw [hg.ends]; exact endsOf_at us _ i hi)
  have hpl : (placesV g.ends).length = us.length := by simp [placesV, hel]
  have hrd : ∀ L (a1 : Option Addr), a1 = a0 → Rd W0 (((bg, .row (logRow bd bs cs g.base g.forced g.end_ (.slice a0 g.ends.length c0) g.bad) 66 65543) :: es) :: L) a1 (placesV g.ends) := fun L a1 h1 => by
    subst h1
    exact (hr0 W0 []).mono fun _ h => h.fewer (by
    simp only [List.flatten_cons, List.flatten_nil, List.append_nil, List.cons_append]
    exact (List.sublist_append_left es _).trans (List.sublist_cons_self _ _))
  refine FnS.of (args := [ptr bg, .int .i64 (to : Int)]) Try.func12 rfl rfl ?_
  refine C.seq ?_
  refine C.region ?_
  refine G.assignI rfl trivial rfl rfl rfl ?_
  refine G.nil ?_
  refine C.seq ?_
  refine C.seq ?_
  refine C.region ?_
  refine G.moveP rfl trivial rfl rfl rfl ?_
  refine G.ptrEq rfl trivial rfl rfl Try.underlying26 rfl rfl ?_
  refine G.moveB rfl trivial rfl rfl rfl ?_
  refine G.moveP rfl ⟨_, rfl, rfl, rfl⟩ rfl rfl rfl ?_
  first | refine G.nilCheckP rfl ⟨_, rfl, rfl, rfl⟩ rfl rfl rfl ?_ | refine G.nilCheckF rfl ⟨_, rfl, rfl, rfl⟩ rfl rfl rfl ?_
  refine G.fieldAddr rfl ⟨_, rfl, rfl, rfl⟩ rfl rfl Try.underlying66 rfl I4 rfl rfl ?_
  refine G.loadAt (v := .bool g.bad) .here rfl ⟨_, rfl, rfl, rfl⟩ rfl rfl Try.underlying4 rfl rfl (lr_bad hcs.1) ?_
  first | refine G.pickT rfl trivial rfl rfl rfl rfl ?_ | refine G.pickF rfl trivial rfl rfl rfl rfl ?_
  refine G.fix (d := 15) (v := .bool false) (by show Value.bool g.bad = _; rw [hg.bad]) ?_
  refine G.nil ?_
  refine C.condF rfl ?_
  refine C.skip ?_
  refine C.seq ?_
  refine C.region ?_
  refine G.moveP rfl trivial rfl rfl rfl ?_
  first | refine G.nilCheckP rfl trivial rfl rfl rfl ?_ | refine G.nilCheckF rfl trivial rfl rfl rfl ?_
  refine G.fieldAddr rfl trivial rfl rfl Try.underlying66 rfl I2 rfl rfl ?_
  refine G.loadAt (v := .int .i64 (g.forced : Int)) .here rfl trivial rfl rfl Try.underlying2 rfl rfl (lr_forced hcs.1) ?_
  refine G.assignI rfl trivial rfl rfl rfl ?_
  refine G.assignI rfl trivial rfl rfl rfl ?_
  refine G.nil ?_
  refine C.cut (fun F D' L' => ∃ n : Nat, n ≤ us.length ∧ g.forced + size (us.take n) ≤ max to g.forced ∧ (n < us.length → to < g.forced + size (us.take (n + 1))) ∧ F 6 = .int .i64 (n : Int) ∧ F 5 = .int .i64 ((g.forced + size (us.take n) : Nat) : Int) ∧ F 0 = ptr bg ∧ D' = [] ∧ ((bg, .row (logRow bd bs cs g.base g.forced g.end_ (.slice a0 g.ends.length c0) g.bad) 66 65543) :: es) :: sp :: devSeg bd bl d :: L0 = L') ?_ ?_
  ·
    refine C.block ?_
    refine C.loop (fun m F D' L' => ∃ n : Nat, n ≤ us.length ∧ g.forced + size (us.take n) ≤ max to g.forced ∧ m = us.length - n ∧ F 6 = .int .i64 (n : Int) ∧ F 5 = .int .i64 ((g.forced + size (us.take n) : Nat) : Int) ∧ F 0 = ptr bg ∧ F 1 = .int .i64 (to : Int) ∧ D' = [] ∧ ((bg, .row (logRow bd bs cs g.base g.forced g.end_ (.slice a0 g.ends.length c0) g.bad) 66 65543) :: es) :: sp :: devSeg bd bl d :: L0 = L') ⟨_, ⟨0, by omega, by simp [size_nil]; omega, rfl, rfl, by simp [size_nil]; rfl, rfl, rfl, rfl, rfl⟩⟩ ?_
    rintro m F D' L' ⟨n, hn, hfar, rfl, h6, h5, h0', h1', rfl, rfl⟩
    refine C.fix (d := 6) h6 ?_
    refine C.fix (d := 5) h5 ?_
    refine C.fix (d := 0) h0' ?_
    refine C.fix (d := 1) h1' ?_
    refine C.seq ?_
    refine C.seq ?_
    refine C.region ?_
    refine G.moveI rfl trivial rfl rfl rfl ?_
    refine G.moveP rfl trivial rfl rfl rfl ?_
    first | refine G.nilCheckP rfl trivial rfl rfl rfl ?_ | refine G.nilCheckF rfl trivial rfl rfl rfl ?_
    refine G.fieldAddr rfl trivial rfl rfl Try.underlying66 rfl I64 rfl rfl ?_
    refine G.loadAt (v := .slice a0 g.ends.length c0) .here rfl trivial rfl rfl Try.underlying64 rfl rfl (lr_ends hcs.1) ?_
    refine G.lenSlice rfl trivial rfl rfl Try.underlying64 rfl ?_
    refine G.bin rfl trivial rfl rfl rfl rfl rfl ?_
    refine G.moveB rfl trivial rfl rfl rfl ?_
    refine G.fork (t := 27) _ rfl ?_ ?_
    · intro hg27
      refine G.moveP rfl ⟨_, rfl, rfl, rfl⟩ rfl rfl rfl ?_
      first | refine G.nilCheckP rfl ⟨_, rfl, rfl, rfl⟩ rfl rfl rfl ?_ | refine G.nilCheckF rfl ⟨_, rfl, rfl, rfl⟩ rfl rfl rfl ?_
      refine G.fieldAddr rfl ⟨_, rfl, rfl, rfl⟩ rfl rfl Try.underlying66 rfl I64 rfl rfl ?_
      refine G.loadAt (v := .slice a0 g.ends.length c0) .here rfl ⟨_, rfl, rfl, rfl⟩ rfl rfl Try.underlying64 rfl rfl (lr_ends hcs.1) ?_
      have hlt : n < us.length := by omega
      obtain ⟨p0, q0, ha0, _⟩ := (hrd [] a0 rfl).some_ (by omega)
      have hax := ha0
      refine G.fix (d := 31) (v := .slice (some ⟨p0, q0, none⟩) g.ends.length c0) (by rw [← hax]; rfl) ?_
      refine G.moveI rfl ⟨_, rfl, rfl, rfl⟩ rfl rfl rfl ?_
      refine G.indexAddr rfl ⟨_, rfl, rfl, rfl⟩ rfl rfl Try.underlying64 I2 rfl rfl (by omega) ?_
      refine G.load (v := .int .i64 ((g.forced + size (us.take (n + 1)) : Nat) : Int)) rfl ⟨_, rfl, rfl, rfl⟩ rfl rfl Try.underlying2 rfl rfl (fun w hm => by have h := Rd.cell_at (vs := placesV g.ends) (j := n) (hrd _ _ ha0.symm) (by omega) w hm; rw [hat n hlt] at h; simpa using h) ?_
      refine G.moveI rfl ⟨_, rfl, rfl, rfl⟩ rfl rfl rfl ?_
      refine G.bin rfl ⟨_, rfl, rfl, rfl⟩ rfl rfl rfl rfl rfl ?_
      first | refine G.pickT rfl trivial rfl rfl rfl rfl ?_ | refine G.pickF rfl trivial rfl rfl rfl rfl ?_
      refine G.nil ?_
      refine C.cond _ rfl ?_ ?_
      · intro hc1
        refine C.skip ?_
        refine C.block ?_
        refine C.seq ?_
        refine C.region ?_
        refine G.moveP rfl trivial rfl rfl rfl ?_
        first | refine G.nilCheckP rfl trivial rfl rfl rfl ?_ | refine G.nilCheckF rfl trivial rfl rfl rfl ?_
        refine G.fieldAddr rfl trivial rfl rfl Try.underlying66 rfl I64 rfl rfl ?_
        refine G.loadAt (v := .slice a0 g.ends.length c0) .here rfl trivial rfl rfl Try.underlying64 rfl rfl (lr_ends hcs.1) ?_
        refine G.fix (d := 41) (v := .slice (some ⟨p0, q0, none⟩) g.ends.length c0) (by rw [← hax]; rfl) ?_
        refine G.moveI rfl trivial rfl rfl rfl ?_
        refine G.indexAddr rfl trivial rfl rfl Try.underlying64 I2 rfl rfl (by omega) ?_
        refine G.load (v := .int .i64 ((g.forced + size (us.take (n + 1)) : Nat) : Int)) rfl trivial rfl rfl Try.underlying2 rfl rfl (fun w hm => by have h := Rd.cell_at (vs := placesV g.ends) (j := n) (hrd _ _ ha0.symm) (by omega) w hm; rw [hat n hlt] at h; simpa using h) ?_
        refine G.assignI rfl trivial rfl rfl rfl ?_
        refine G.nil ?_
        refine C.region ?_
        refine G.moveI rfl trivial rfl rfl rfl ?_
        refine G.add rfl trivial rfl rfl rfl rfl (by omega) ?_
        refine G.assignI rfl trivial rfl rfl rfl ?_
        refine G.nil ?_
        exact ⟨us.length - (n + 1), by omega, n + 1, by omega, by omega, rfl, rfl, rfl, rfl, rfl, rfl, rfl⟩
      · intro hc1
        refine C.exit ?_
        exact ⟨n, hn, hfar, fun _ => by omega, rfl, rfl, rfl, rfl, rfl⟩
    · intro hg27
      refine G.skip rfl rfl rfl rfl rfl rfl ?_
      refine G.skip rfl rfl rfl rfl rfl rfl ?_
      refine G.skip rfl rfl rfl rfl rfl rfl ?_
      refine G.skip rfl rfl rfl rfl rfl rfl ?_
      refine G.skip rfl rfl rfl rfl rfl rfl ?_
      refine G.skip rfl rfl rfl rfl rfl rfl ?_
      refine G.skip rfl rfl rfl rfl rfl rfl ?_
      refine G.skip rfl rfl rfl rfl rfl rfl ?_
      refine G.skip rfl rfl rfl rfl rfl rfl ?_
      first | refine G.pickT rfl trivial rfl rfl rfl rfl ?_ | refine G.pickF rfl trivial rfl rfl rfl rfl ?_
      refine G.nil ?_
      refine C.condF rfl ?_
      refine C.exit ?_
      exact ⟨n, hn, hfar, fun hlt => by omega, rfl, rfl, rfl, rfl, rfl⟩
  ·
    rintro F D' L' ⟨n, hn, hfar, hmore, h6, h5, h0', rfl, rfl⟩
    refine C.fix (d := 6) h6 ?_
    refine C.fix (d := 5) h5 ?_
    refine C.fix (d := 0) h0' ?_
    refine C.seq ?_
    refine C.seq ?_
    refine C.region ?_
    refine G.moveI rfl trivial rfl rfl rfl ?_
    refine G.moveP rfl trivial rfl rfl rfl ?_
    first | refine G.nilCheckP rfl trivial rfl rfl rfl ?_ | refine G.nilCheckF rfl trivial rfl rfl rfl ?_
    refine G.fieldAddr rfl trivial rfl rfl Try.underlying66 rfl I2 rfl rfl ?_
    refine G.loadAt (v := .int .i64 (g.forced : Int)) .here rfl trivial rfl rfl Try.underlying2 rfl rfl (lr_forced hcs.1) ?_
    refine G.bin rfl trivial rfl rfl rfl rfl rfl ?_
    refine G.nil ?_
    refine C.cond _ rfl ?_ ?_
    · intro hc2
      refine C.seq ?_
      refine C.region ?_
      refine G.assignI rfl trivial rfl rfl rfl ?_
      refine G.nil ?_
      refine C.ret ?_
      -- end c2T
      have hn0 : n = 0 := by have := length_le_size (us.take n); rw [List.length_take] at this; omega
      subst hn0
      exact ⟨rfl, _, Res.of (rs := [.tmp 4]) rfl rfl, _, sp, d, 0, 0, rfl, by omega, by simp [size_nil]; omega, hmore, ⟨fun h => h, .inl ⟨rfl, p, t, Nat.le_refl _, by omega, by rw [force0 hg]; exact hsg0, hsp, by rw [force0 hg]; simpa using hg, by simpa using hw⟩⟩, rfl⟩
    · intro hc2
      have hn0 : 0 < n := by rcases Nat.eq_zero_or_pos n with h | h; (subst h; simp [size_nil] at hc2); exact h
      have hst : g.forced + size (us.take n) = g.base + (strm fs ++ strm (us.take n)).length := by rw [List.length_append, hfo]; show _ = g.base + (size fs + size (us.take n)); omega
      have hle := size_take_le us n
      have hspos : 0 < size (us.take n) := by omega
      have hsplit : strm (fs ++ us) = (strm fs ++ strm (us.take n)) ++ strm (us.drop n) := by rw [← strm_append, ← strm_append, List.append_assoc, List.take_append_drop]
      refine C.skip ?_
      refine C.seq ?_
      refine C.seq ?_
      refine C.region ?_
      refine G.moveP rfl trivial rfl rfl rfl ?_
      refine G.moveI rfl trivial rfl rfl rfl ?_
      refine G.call E26 rfl rfl trivial rfl rfl (write_spec' W0 L0 bg bs bd bl g _ hsg0 d p sp hsp t ht (strm fs) (strm (us.take n)) hw hfo (g.forced + size (us.take n)) hst hspos (by show size fs + size (us.take n) ≤ _; omega) (by have h := hg.ring; rw [hsplit] at h; exact h.left) (by omega)) rfl ?_
      rintro e L2 ⟨sp1, d1, e1, rfl, hcase, hlv, rfl⟩
      refine G.assignI rfl trivial rfl rfl rfl ?_
      refine G.nil ?_
      refine C.seq ?_
      refine C.region ?_
      refine G.moveI rfl trivial rfl rfl rfl ?_
      refine G.bin rfl trivial rfl rfl rfl rfl rfl ?_
      refine G.nil ?_
      refine C.cond _ rfl ?_ ?_
      · intro hc3
        obtain ⟨he, q1, q2, q3, q4⟩ := hcase.resolve_left (fun h => hc3 h.1)
        refine C.seq ?_
        refine C.region ?_
        refine G.moveP rfl trivial rfl rfl rfl ?_
        first | refine G.nilCheckP rfl trivial rfl rfl rfl ?_ | refine G.nilCheckF rfl trivial rfl rfl rfl ?_
        refine G.fieldAddr rfl trivial rfl rfl Try.underlying66 rfl I4 rfl rfl ?_
        refine G.store (v := .bool true) .here rfl trivial rfl I4 rfl rfl rfl (Nat.lt_of_lt_of_eq (by decide) (lr_length hcs.1).symm) _ (lr_setBad hcs.1 true) ?_
        refine G.nil ?_
        refine C.seq ?_
        refine C.region ?_
        refine G.moveI rfl trivial rfl rfl rfl ?_
        refine G.assignI rfl trivial rfl rfl rfl ?_
        refine G.nil ?_
        refine C.ret ?_
        -- end c2Fc3T
        exact ⟨rfl, _, Res.of (rs := [.tmp 4]) rfl rfl, _, sp1, d1, e1, n, rfl, hn, hfar, hmore, ⟨hlv, .inr ⟨he, hn0, q3, ⟨cs, _, es, hcs, hes, rfl⟩, q1, q2, fun ks => by (rcases q4 ks with h | h; exact ⟨_, t, by omega, .inl h⟩; exact ⟨_, t + 1, Nat.le_refl _, .inr (by rw [strm_append]; exact h)⟩)⟩⟩, rfl⟩
      · intro hc3
        obtain ⟨he, q1, q2⟩ := hcase.resolve_right (fun h => by have := h.1; omega)
        rw [← strm_append] at q2
        obtain rfl : e1 = 0 := he
        have hfn : g.forced + size (us.take n) = (g.force fs us n).forced := by show _ = g.base + size (fs ++ us.take n); rw [size_append, hfo]; omega
        refine C.skip ?_
        refine C.seq ?_
        refine C.drawn mixed (_) [11, 14] (fun _ h => h) ?_
        refine GA.pure (i := 0) (fun _ _ _ _ _ h => h) rfl (by kernel_rfl) trivial rfl rfl (Y.moveP rfl rfl) (#[true, false, false, false, false, false, false, false, false, false, false, false, false, false, false]) (by kernel_rfl) ?_
        refine GA.pure (i := 1) (fun _ _ _ _ _ h => h) rfl (by kernel_rfl) trivial rfl rfl (Y.moveP rfl rfl) (#[true, true, false, false, false, false, false, false, false, false, false, false, false, false, false]) (by kernel_rfl) ?_
        refine GA.pure (i := 2) (fun _ _ _ _ _ h => h) rfl (by kernel_rfl) trivial rfl rfl (Y.moveI rfl rfl) (#[true, true, true, false, false, false, false, false, false, false, false, false, false, false, false]) (by kernel_rfl) ?_
        refine GA.pure (i := 3) (fun _ _ _ _ _ h => h) rfl (by kernel_rfl) trivial rfl rfl (Y.moveP rfl rfl) (#[true, true, true, true, false, false, false, false, false, false, false, false, false, false, false]) (by kernel_rfl) ?_
        first | refine GA.pure (i := 4) (fun _ _ _ _ _ h => h) rfl (by kernel_rfl) trivial rfl rfl (Y.nilCheckP rfl rfl) (#[true, true, true, true, true, false, false, false, false, false, false, false, false, false, false]) (by kernel_rfl) ?_ | refine GA.pure (i := 4) (fun _ _ _ _ _ h => h) rfl (by kernel_rfl) trivial rfl rfl (Y.nilCheckF rfl rfl) (#[true, true, true, true, true, false, false, false, false, false, false, false, false, false, false]) (by kernel_rfl) ?_
        refine GA.pure (i := 5) (fun _ _ _ _ _ h => h) rfl (by kernel_rfl) trivial rfl rfl (Y.fieldAddr rfl Try.underlying66 rfl I64 rfl rfl) (#[true, true, true, true, true, true, false, false, false, false, false, false, false, false, false]) (by kernel_rfl) ?_
        refine GA.read (i := 6) (fun _ _ _ _ _ h => h) rfl (by kernel_rfl) (by kernel_rfl) trivial rfl rfl (Y.loadAt (v := .slice a0 g.ends.length c0) .here rfl Try.underlying64 rfl rfl (lr_ends hcs.1)) (#[true, true, true, true, true, true, true, false, false, false, false, false, false, false, false]) (by kernel_rfl) ?_
        refine GA.pure (i := 7) (fun _ _ _ _ _ h => h) rfl (by kernel_rfl) trivial rfl rfl (Y.moveI rfl rfl) (#[true, true, true, true, true, true, true, true, false, false, false, false, false, false, false]) (by kernel_rfl) ?_
        refine GA.pure (i := 8) (fun _ _ _ _ _ h => h) rfl (by kernel_rfl) trivial rfl rfl (Y.sliceL rfl Try.underlying64 I2 rfl rfl (by omega)) (#[true, true, true, true, true, true, true, true, true, false, false, false, false, false, false]) (by kernel_rfl) ?_
        first | refine GA.pure (i := 9) (fun _ _ _ _ _ h => h) rfl (by kernel_rfl) trivial rfl rfl (Y.nilCheckP rfl rfl) (#[true, true, true, true, true, true, true, true, true, true, false, false, false, false, false]) (by kernel_rfl) ?_ | refine GA.pure (i := 9) (fun _ _ _ _ _ h => h) rfl (by kernel_rfl) trivial rfl rfl (Y.nilCheckF rfl rfl) (#[true, true, true, true, true, true, true, true, true, true, false, false, false, false, false]) (by kernel_rfl) ?_
        refine GA.pure (i := 10) (fun _ _ _ _ _ h => h) rfl (by kernel_rfl) trivial rfl rfl (Y.fieldAddr rfl Try.underlying66 rfl I2 rfl rfl) (#[true, true, true, true, true, true, true, true, true, true, true, false, false, false, false]) (by kernel_rfl) ?_
        refine GA.one (i := 11) rfl (by kernel_rfl) (#[true, true, true, true, true, true, true, true, true, true, true, true, false, false, false]) (by kernel_rfl) ?_
        refine G.store (v := .int .i64 ((g.forced + size (us.take n) : Nat) : Int)) .here rfl trivial rfl I2 rfl rfl rfl (Nat.lt_of_lt_of_eq (by decide) (lr_length hcs.1).symm) _ (lr_setForced hcs.1 _) ?_
        refine G.nil ?_
        refine ⟨fun _ h => absurd h (by simp [hit]), ?_⟩
        first | refine GA.pure (i := 12) (fun _ _ _ _ _ h => h) rfl (by kernel_rfl) trivial rfl rfl (Y.nilCheckP rfl rfl) (#[true, true, true, true, true, true, true, true, true, true, true, true, true, false, false]) (by kernel_rfl) ?_ | refine GA.pure (i := 12) (fun _ _ _ _ _ h => h) rfl (by kernel_rfl) trivial rfl rfl (Y.nilCheckF rfl rfl) (#[true, true, true, true, true, true, true, true, true, true, true, true, true, false, false]) (by kernel_rfl) ?_
        refine GA.pure (i := 13) (fun _ _ _ _ _ h => h) rfl (by kernel_rfl) trivial rfl rfl (Y.fieldAddr rfl Try.underlying66 rfl I64 rfl rfl) (#[true, true, true, true, true, true, true, true, true, true, true, true, true, true, false]) (by kernel_rfl) ?_
        refine GA.one (i := 14) rfl (by kernel_rfl) (#[true, true, true, true, true, true, true, true, true, true, true, true, true, true, true]) (by kernel_rfl) ?_
        refine G.store (v := .slice (cutA a0 c0 n 1) (g.ends.length - n) (c0 - n)) .here rfl trivial rfl I64 rfl rfl rfl (Nat.lt_of_lt_of_eq (by decide) (lr_length hcs.1).symm) _ (lr_setEnds hcs.1 _) ?_
        refine G.nil ?_
        refine ⟨fun _ h => absurd h (by simp [hit]), ?_⟩
        refine GA.done (by kernel_rfl) ?_
        refine C.seq ?_
        refine C.region ?_
        refine G.assignI rfl trivial rfl rfl rfl ?_
        refine G.nil ?_
        refine C.ret ?_
        -- end c2Fc3F
        exact ⟨rfl, _, Res.of (rs := [.tmp 4]) rfl rfl, _, sp1, d1, 0, n, rfl, hn, hfar, hmore, ⟨hlv, .inl ⟨rfl, _, t + 1, by omega, Nat.le_refl _, ⟨cs, _, es, hcs, by (have h := hes.drop (n := n) (by omega); simpa [Lg.force, placesV, List.map_drop] using h), by simp only [← hfn]; rfl⟩, q1, hg.force hn, q2⟩⟩, rfl⟩
end
end Go.Proofs.Ytjfjmhmfhkdcbab
