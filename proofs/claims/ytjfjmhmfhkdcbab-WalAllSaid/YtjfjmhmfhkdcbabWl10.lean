/-
  The log on a live device: what each call does, told by its records alone.
-/
import Derived.Test.YtjfjmhmfhkdcbabWl9
namespace Go.Proofs.Ytjfjmhmfhkdcbab
open Go Go.SL Go.RowKit

/-- a log on a live device: its base, the records that last, those that do not yet; the super's text was saved at most T times -/
def WA (bg bs bd base : Nat) (fs us : List (List UInt8)) (T : Nat) (d : Dv) (sg sp : Seg) : Prop :=
  ∃ g p t, t ≤ T ∧ g.base = base ∧ LgIs bg bs bd g sg ∧ Lok g fs us ∧ SpIs bs bd p sp ∧ Wd d p t base (strm fs) ∧ d.live
/-- a device that opens as a log -/
def WD (base : Nat) (fs : List (List UInt8)) (T : Nat) (d : Dv) : Prop := ∃ p t, t ≤ T ∧ Wd d p t base (strm fs) ∧ recsOk fs ∧ size fs ≤ 65536
theorem WA.wd {bg bs bd base T : Nat} {fs us : List (List UInt8)} {d : Dv} {sg sp : Seg} (h : WA bg bs bd base fs us T d sg sp) (ks : List Bool) : WD base fs T (d.crash ks) := by
  obtain ⟨g, p, t, h1, h2, h3, h4, h5, h6, h7⟩ := h
  exact ⟨p, t, h1, h6.crash ks, fun b hb => h4.recs b (by simp [hb]), by have := h4.room; omega⟩
theorem WA.dev {bg bs bd base T : Nat} {fs us : List (List UInt8)} {d : Dv} {sg sp : Seg} (h : WA bg bs bd base fs us T d sg sp) : d.ok ∧ d.l.length = 1410 ∧ d.live := by
  obtain ⟨g, p, t, h1, h2, h3, h4, h5, h6, h7⟩ := h
  exact ⟨h6.ok, h6.len, h7⟩
theorem WA.room {bg bs bd base T : Nat} {fs us : List (List UInt8)} {d : Dv} {sg sp : Seg} (h : WA bg bs bd base fs us T d sg sp) : size fs + size us ≤ 65536 := by
  obtain ⟨g, p, t, h1, h2, h3, h4, h5, h6, h7⟩ := h
  exact h4.room
theorem WA.recs {bg bs bd base T : Nat} {fs us : List (List UInt8)} {d : Dv} {sg sp : Seg} (h : WA bg bs bd base fs us T d sg sp) : recsOk (fs ++ us) := by
  obtain ⟨g, p, t, h1, h2, h3, h4, h5, h6, h7⟩ := h
  exact h4.recs
theorem WA.more {bg bs bd base T T' : Nat} {fs us : List (List UInt8)} {d : Dv} {sg sp : Seg} (h : WA bg bs bd base fs us T d sg sp) (ht : T ≤ T') : WA bg bs bd base fs us T' d sg sp := by
  obtain ⟨g, p, t, h1, h2⟩ := h
  exact ⟨g, p, t, by omega, h2⟩
theorem Lok.app {g : Lg} {fs us : List (List UInt8)} (h : Lok g fs us) {xs : List UInt8} (hl : 1 ≤ xs.length ∧ xs.length ≤ 60000) (hf : xs.length + 4 + (size fs + size us) ≤ 65536) : Lok (g.app xs) fs (us ++ [xs]) := by
  have hs : size (us ++ [xs]) = size us + (xs.length + 4) := by rw [size_append, size_cons, size_nil]
  have he : strm (fs ++ (us ++ [xs])) = strm (fs ++ us) ++ enc xs := by rw [← List.append_assoc, strm_append, strm_cons]; exact congrArg _ (List.append_nil _)
  have hen : g.end_ = g.base + (strm (fs ++ us)).length := by
    rw [h.end_, h.forced]
    show _ = g.base + size (fs ++ us)
    rw [size_append]; omega
  refine ⟨h.bad, h.forced, ?_, by omega, ?_, ?_, ?_⟩
  · show g.end_ + (xs.length + 4) = g.forced + _
    rw [hs, h.end_]; omega
  · intro b hb
    rw [← List.append_assoc] at hb
    rcases List.mem_append.1 hb with hb | hb
    · exact h.recs b hb
    · simp at hb; subst hb; exact hl
  · show g.ends ++ [g.end_ + (xs.length + 4)] = endsOf g.forced (us ++ [xs])
    rw [endsOf_append, h.ends, h.end_]
    rfl
  · show Has (putR g.R g.end_ (enc xs)) g.base _
    have hsl : (strm (fs ++ us)).length = size fs + size us := size_append fs us
    rw [he]
    refine Has.append (putR_keep h.ring (by omega) (by rw [enc_length]; omega)) ?_
    rw [← hen]
    exact putR_has _ _ _ (by rw [enc_length]; omega)
section
variable (W0 : World) (S L0 : List Seg) (bg bs bd bl base T : Nat) (fs us : List (List UInt8)) (d : Dv) (sg sp : Seg)
theorem wa_make (d : Dv) (hd : d.ok) (hv : d.live) (hn : d.l.length = 1410) :
    FnS Try.prog W0 6 #[ptr bd] (S ++ (devSeg bd bl d :: L0)) (fun r L' => ∃ bg bs sg sp d', L' = sg :: sp :: devSeg bd bl d' :: (S ++ L0) ∧ WA bg bs bd 0 [] [] 1 d' sg sp ∧ r = .returned (.tuple #[ptr bg, .int .i64 0])) := by
  refine (walmake_spec W0 S L0 bd bl d hd hv hn).mono ?_
  rintro e L' ⟨bg, bs, sg, sp, d', p, rfl, h1, h2, h3, h4, rfl⟩
  exact ⟨bg, bs, sg, sp, d', rfl, ⟨_, p, 1, Nat.le_refl _, rfl, h1, newLok (rs := []) (Has.nil _ _) (fun b hb => by simp at hb) (by decide), h2, h3, h4⟩, rfl⟩
theorem wa_append (h : WA bg bs bd base fs us T d sg sp) (hbig : base < 900000000000) (a : Option Addr) (l c : Nat) (xs : List UInt8) (hxl : l = xs.length) (hl : 1 ≤ xs.length ∧ xs.length ≤ 60000) (hf : xs.length + 4 + (size fs + size us) ≤ 65536) (hr : ∀ S : List Seg, Rd W0 (S ++ L0) a (bytesV xs)) :
    FnS Try.prog W0 11 #[ptr bg, .slice a l c] (sg :: L0) (fun r L' => ∃ sg', WA bg bs bd base fs (us ++ [xs]) T d sg' sp ∧ L' = sg' :: L0 ∧ r = .returned (.tuple #[.int .i64 ((base + size fs + size us + (xs.length + 4) : Nat) : Int), .int .i64 0])) := by
  obtain ⟨g, p, t, h1, rfl, h3, h4, h5, h6, h7⟩ := h
  have e1 := h4.forced
  have e2 := h4.end_
  have e3 := h4.room
  have e4 : g.ends.length = us.length := by rw [h4.ends, endsOf_length]
  have e5 := length_le_size us
  refine (append_spec W0 L0 bg bs bd g sg h3 h4.bad (by omega) (by omega) (by omega) a l c xs hxl hl (by omega) hr).mono ?_
  rintro e L' ⟨sg', q1, rfl, rfl⟩
  exact ⟨sg', ⟨g.app xs, p, t, h1, rfl, q1, h4.app hl hf, h5, h6, h7⟩, rfl, by rw [e2, e1]⟩
theorem wa_form (h : WA bg bs bd base fs us T d sg sp) (a : Option Addr) (l c : Nat) (hl : l < 1 ∨ 60000 < l) : FnS Try.prog W0 11 #[ptr bg, .slice a l c] (S ++ (sg :: L0)) (fun r L' => L' = S ++ (sg :: L0) ∧ r = .returned (.tuple #[.int .i64 0, .int .i64 1])) := by
  obtain ⟨g, p, t, h1, rfl, h3, h4, h5, h6, h7⟩ := h
  exact append_form W0 S L0 bg bs bd g sg h3 h4.bad a l c hl
theorem wa_full (h : WA bg bs bd base fs us T d sg sp) (hbig : base < 900000000000) (a : Option Addr) (l c : Nat) (hl : 1 ≤ l ∧ l ≤ 60000) (hf : 65536 < l + 4 + (size fs + size us)) : FnS Try.prog W0 11 #[ptr bg, .slice a l c] (S ++ (sg :: L0)) (fun r L' => L' = S ++ (sg :: L0) ∧ r = .returned (.tuple #[.int .i64 0, .int .i64 4])) := by
  obtain ⟨g, p, t, h1, rfl, h3, h4, h5, h6, h7⟩ := h
  have e1 := h4.forced
  have e2 := h4.end_
  have e3 := h4.room
  exact append_full W0 S L0 bg bs bd g sg h3 h4.bad (by omega) (by omega) a l c hl (by omega)
theorem wa_fits (h : WA bg bs bd base fs us T d sg sp) (hbig : base < 900000000000) (n : Nat) (hn : n < 1099511627776) : FnS Try.prog W0 10 #[ptr bg, .int .i64 (n : Int)] (S ++ (sg :: L0)) (fun r L' => L' = S ++ (sg :: L0) ∧ r = .returned (.bool (decide (1 ≤ n ∧ n ≤ 60000 ∧ n + 4 + (size fs + size us) ≤ 65536)))) := by
  obtain ⟨g, p, t, h1, rfl, h3, h4, h5, h6, h7⟩ := h
  have e1 := h4.forced
  have e2 := h4.end_
  have e3 := h4.room
  have h := fits_spec W0 S L0 bg bs bd g sg h3 n hn (by omega) (by omega)
  rw [show g.end_ - g.base = size fs + size us by omega] at h
  exact h
theorem wa_end (h : WA bg bs bd base fs us T d sg sp) : FnS Try.prog W0 15 #[ptr bg] (S ++ (sg :: L0)) (fun r L' => L' = S ++ (sg :: L0) ∧ r = .returned (.int .i64 ((base + size fs + size us : Nat) : Int))) := by
  obtain ⟨g, p, t, h1, rfl, h3, h4, h5, h6, h7⟩ := h
  have h := end_spec W0 S L0 bg bs bd g sg h3
  rw [h4.end_, h4.forced] at h
  exact h
theorem wa_base (h : WA bg bs bd base fs us T d sg sp) : FnS Try.prog W0 16 #[ptr bg] (S ++ (sg :: L0)) (fun r L' => L' = S ++ (sg :: L0) ∧ r = .returned (.int .i64 (base : Int))) := by
  obtain ⟨g, p, t, h1, rfl, h3, h4, h5, h6, h7⟩ := h
  exact base_spec W0 S L0 bg bs bd g sg h3
theorem wa_forced (h : WA bg bs bd base fs us T d sg sp) : FnS Try.prog W0 13 #[ptr bg] (S ++ (sg :: L0)) (fun r L' => L' = S ++ (sg :: L0) ∧ r = .returned (.int .i64 ((base + size fs : Nat) : Int))) := by
  obtain ⟨g, p, t, h1, rfl, h3, h4, h5, h6, h7⟩ := h
  have h := forced_spec W0 S L0 bg bs bd g sg h3
  rw [h4.forced] at h
  exact h
theorem wa_force (h : WA bg bs bd base fs us T d sg sp) (hbig : base < 900000000000) (hT : T < 999990) (to : Nat) :
    FnS Try.prog W0 12 #[ptr bg, .int .i64 (to : Int)] (sg :: sp :: devSeg bd bl d :: L0) (fun r L' => ∃ sg' sp' d' n, L' = sg' :: sp' :: devSeg bd bl d' :: L0 ∧ n ≤ us.length ∧ base + size fs + size (us.take n) ≤ max to (base + size fs) ∧ (n < us.length → to < base + size fs + size (us.take (n + 1))) ∧
      WA bg bs bd base (fs ++ us.take n) (us.drop n) (T + 1) d' sg' sp' ∧ r = .returned (.int .i64 0)) := by
  obtain ⟨g, p, t, h1, rfl, h3, h4, h5, h6, h7⟩ := h
  have e1 := h4.forced
  have e2 := h4.end_
  have e3 := h4.room
  refine (force_spec W0 L0 bg bs bd bl g sg h3 fs us h4 d p sp h5 t (by omega) h6 (by omega) to).mono ?_
  rintro e L' ⟨sg', sp', d', e, n, rfl, hn, hfar, hmore, ⟨hlv, hcase⟩, rfl⟩
  rcases hcase with ⟨rfl, p', t', q1, q2, q3, q4, q5, q6⟩ | ⟨_, _, q, _⟩
  · exact ⟨sg', sp', d', n, rfl, hn, by rw [← e1]; exact hfar, by rw [← e1]; exact hmore, ⟨g.force fs us n, p', t', by omega, rfl, q3, q5, q4, q6, hlv h7⟩, rfl⟩
  · exact absurd h7 q
theorem wa_forceAll (h : WA bg bs bd base fs us T d sg sp) (hbig : base < 900000000000) (hT : T < 999990) (to : Nat) (hto : base + size fs + size us ≤ to) :
    FnS Try.prog W0 12 #[ptr bg, .int .i64 (to : Int)] (sg :: sp :: devSeg bd bl d :: L0) (fun r L' => ∃ sg' sp' d', L' = sg' :: sp' :: devSeg bd bl d' :: L0 ∧ WA bg bs bd base (fs ++ us) [] (T + 1) d' sg' sp' ∧ r = .returned (.int .i64 0)) := by
  refine (wa_force W0 L0 bg bs bd bl base T fs us d sg sp h hbig hT to).mono ?_
  rintro e L' ⟨sg', sp', d', n, rfl, hn, hfar, hmore, hw, rfl⟩
  have hnu : n = us.length := by
    rcases Nat.lt_or_ge n us.length with h | h
    · have h1 := hmore h
      have h2 := size_take_le us (n + 1)
      omega
    · omega
  subst hnu
  rw [List.take_length, List.drop_length] at hw
  exact ⟨sg', sp', d', rfl, hw, rfl⟩
theorem wa_cut (h : WA bg bs bd base fs us T d sg sp) (hbig : base < 900000000000) (hT : T < 999990) :
    FnS Try.prog W0 14 #[ptr bg] (sg :: sp :: devSeg bd bl d :: L0) (fun r L' => ∃ sg' sp' d', L' = sg' :: sp' :: devSeg bd bl d' :: L0 ∧ WA bg bs bd (base + size fs + size us) [] [] (T + 2) d' sg' sp' ∧ r = .returned (.int .i64 0)) := by
  obtain ⟨g, p, t, h1, rfl, h3, h4, h5, h6, h7⟩ := h
  have e1 := h4.forced
  have e2 := h4.end_
  have e3 := h4.room
  refine (cut_spec W0 L0 bg bs bd bl g sg h3 fs us h4 d p sp h5 t (by omega) h6 (by omega)).mono ?_
  rintro e L' ⟨sg', sp', d', e, rfl, ⟨hlv, hcase⟩, rfl⟩
  rcases hcase with ⟨rfl, p', t', q1, q3, q4, q6⟩ | ⟨_, q, _⟩
  · exact ⟨sg', sp', d', rfl, ⟨g.cut fs us, p', t', by omega, by rw [← e1, ← e2]; rfl, q3, h4.cut, q4, by rw [← e1, ← e2]; exact q6, hlv h7⟩, rfl⟩
  · exact absurd h7 q
theorem wa_open (h : WD base fs T d) (hv : d.live) (hbig : base < 900000000000) (hT : T < 999990) :
    FnS Try.prog W0 17 #[ptr bd] (S ++ (devSeg bd bl d :: L0)) (fun r L' => ∃ bg bs sg sp v ls s0 s1, L' = s0 :: s1 :: sg :: sp :: (S ++ (devSeg bd bl d :: L0)) ∧ WA bg bs bd base fs [] T d sg sp ∧ RowsO v ls s0 s1 ∧ ls.map (·.2.2) = fs ∧ r = .returned (.tuple #[ptr bg, v, .int .i64 0])) := by
  obtain ⟨p, t, h1, h2, h3, h4⟩ := h
  refine (walopen_spec W0 S L0 bd bl d p t base fs h2 (by omega) h3 h4 (by omega)).mono ?_
  rintro e L' ⟨bg, bs, sg, sp, v, ls, s0, s1, rfl, q1, q2, q3, q4, rfl⟩
  exact ⟨bg, bs, sg, sp, v, ls, s0, s1, rfl, ⟨_, p, t, h1, rfl, q1, newLok h2.now h3 h4, q2, h2, hv⟩, q3, q4, rfl⟩
end
/-! ### The rows told, read -/
theorem RowsO.form {v : Value} {ls : LsB} {s0 s1 : Seg} (h : RowsO v ls s0 s1) : ∃ a c, v = .slice a ls.length c ∧ ∀ W0 L, Rd W0 (s0 :: L) a (ls.map hdrB) := h.1.form
theorem hdrs_at {ls : LsB} {i : Nat} (h : i < ls.length) : (ls.map hdrB)[i]? = some (.slice ls[i].1 ls[i].2.2.length ls[i].2.1) := by simp [h, hdrB]
theorem ls_text {ls : LsB} {fs : List (List UInt8)} (h : ls.map (·.2.2) = fs) {i : Nat} (hi : i < ls.length) : fs[i]? = some ls[i].2.2 := by rw [← h]; simp [hi]
theorem ls_length {ls : LsB} {fs : List (List UInt8)} (h : ls.map (·.2.2) = fs) : ls.length = fs.length := by rw [← h, List.length_map]
/-- blocks in another order -/
theorem Mem.rot {W0 w : World} (A B : List Seg) {C : List Seg} (h : Mem W0 w (A ++ (B ++ C))) : Mem W0 w (B ++ (A ++ C)) := h.perm (List.perm_append_comm_assoc A B C)
theorem Mem.dropN {W0 w : World} (A : List Seg) {C : List Seg} (h : Mem W0 w (A ++ C)) : Mem W0 w C := h.fewer (by
  rw [List.flatten_append]
  exact List.sublist_append_right _ _)
end Go.Proofs.Ytjfjmhmfhkdcbab
