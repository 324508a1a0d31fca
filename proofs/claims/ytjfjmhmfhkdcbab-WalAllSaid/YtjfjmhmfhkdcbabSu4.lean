/-
  Two slots, plainly: what is opened behind saves and crashes.
-/
import Derived.Test.YtjfjmhmfhkdcbabSu3
import Derived.Test.YtjfjmhmfhkdcbabDv6
namespace Go.Proofs.Ytjfjmhmfhkdcbab
open Go Go.SL Go.RowKit

def lastAt (d : Dv) (i : Nat) : List UInt8 := match d.l[i]? with | some s => s.lasts | none => []
theorem nowAt_put (d : Dv) {i : Nat} (hi : i < d.l.length) (hd : d.ok) {b : List UInt8} (hb : b.length = 64) (j : Nat) : nowAt (d.put i b) j = if i = j then b else nowAt d j := by
  unfold nowAt Dv.put
  simp only
  rw [List.getElem?_modify]
  by_cases h : i = j
  · subst h
    rw [List.getElem?_eq_getElem hi, if_pos rfl]
    simp only [Option.map_eq_map, Option.map_some, if_true]
    show over b _ = b
    exact over_full (by rw [hb, (hd.1 _ (List.getElem_mem hi)).1]; exact Nat.le_refl _)
  · simp only [if_neg h]
    cases d.l[j]? <;> rfl
theorem nowAt_flush (d : Dv) (j : Nat) : nowAt d.flush j = nowAt d j := by
  unfold nowAt Dv.flush
  simp only [List.getElem?_map]
  cases d.l[j]? <;> rfl
/-- nothing is loose -/
def Dv.clean (d : Dv) : Prop := ∀ s ∈ d.l, s.loose = false ∧ s.lasts = s.now
theorem flush_clean (d : Dv) : d.flush.clean := by
  intro s hs
  obtain ⟨t, _, rfl⟩ := List.mem_map.1 hs
  exact ⟨rfl, rfl⟩
theorem crash_clean (d : Dv) (ks : List Bool) : (d.crash ks).clean := by
  intro s hs
  obtain ⟨t, _, rfl⟩ := List.mem_map.1 hs
  exact ⟨rfl, rfl⟩
theorem new_clean (n : Nat) : (newDv n).clean := by
  intro s hs
  rw [List.eq_of_mem_replicate hs]
  exact ⟨rfl, rfl⟩
theorem nowAt_crash (d : Dv) (ks : List Bool) (j : Nat) : nowAt (d.crash ks) j = match d.l[j]? with | some s => kept ks s (loosN (d.l.take j)) | none => [] := by
  unfold nowAt
  have h2 : (d.crash ks).l[j]? = (d.l[j]?.map (fun s => kept ks s (0 + loosN (d.l.take j)))).map both := by
    show ((crashFrom ks d.l 0).map both)[j]? = _
    rw [List.getElem?_map, crashFrom_get]
  rw [h2]
  cases d.l[j]? with
  | none => rfl
  | some s =>
    simp only [Option.map_some, Nat.zero_add]
    rfl
theorem nowAt_crash_clean {d : Dv} (h : d.clean) (ks : List Bool) (j : Nat) : nowAt (d.crash ks) j = nowAt d j := by
  rw [nowAt_crash]
  unfold nowAt
  cases hj : d.l[j]? with
  | none => rfl
  | some s =>
    obtain ⟨h1, h2⟩ := h s (List.mem_of_getElem? hj)
    simp only [kept, h1, Bool.false_and, if_neg (show ¬ (false = true) by simp), h2]
theorem looses_clean : ∀ {l : List Sec} (_ : ∀ s ∈ l, s.loose = false ∧ s.lasts = s.now) (k : Nat), looses l k = []
  | [], _, _ => rfl
  | s :: l, h, k => by
    rw [looses, looses_clean (l := l) (fun t ht => h t (List.mem_cons_of_mem _ ht)), (h s List.mem_cons_self).1]
    rfl
theorem crash_live (d : Dv) (ks : List Bool) : (d.crash ks).live := ⟨rfl, rfl⟩
/-- the two slots on a device -/
structure Slots (d : Dv) (p : Sp) (t : Nat) : Prop where
  turn : p.turn = (t : Int)
  pos : 1 ≤ t
  slot : p.slot ≤ 1
  len : p.text.length ≤ 40
  here : nowAt d (p.at_ + p.slot) = sectS t p.text
  there : nowAt d (p.at_ + (1 - p.slot)) = zero64 ∨ ∃ c : List UInt8, c.length ≤ 40 ∧ 2 ≤ t ∧ nowAt d (p.at_ + (1 - p.slot)) = sectS (t - 1) c
theorem turnI_sect {t : Nat} (h : t < 1000000) (b : List UInt8) : turnI (sectS t b) = (t : Int) := by
  unfold turnI
  rw [sectS_turn (Nat.lt_of_lt_of_le h (by decide)), wrap_i64 (by omega)]
theorem turnI_zero : turnI zero64 = 0 := by kernel_rfl
theorem valid_sect {t : Nat} (h : t < 1000000) {b : List UInt8} (hb : b.length ≤ 40) {z : Int} (hz : z < (t : Int)) : validS (sectS t b) z := by
  refine ⟨?_, ?_, ?_⟩
  · rw [sectS_drop4, sectS_sum]
  · rw [turnI_sect h]; exact hz
  · rw [sectS_len t (by omega)]; exact hb
theorem Slots.opened {d : Dv} {p : Sp} {t : Nat} (h : Slots d p t) (ht : t < 1000000) : opTo p.at_ (fun k => nowAt d (p.at_ + k)) 2 = p := by
  obtain ⟨at_, slot, turn, text⟩ := p
  obtain ⟨h1, h2, h3, h4, h5, h6⟩ := h
  simp only at h1 h3 h4 h5 h6
  have hv : ∀ z : Int, z < t → validS (sectS t text) z := fun z hz => valid_sect ht h4 hz
  show opStep (opStep { at_ := at_, slot := 0, turn := 0, text := [] } 0 (nowAt d (at_ + 0))) 1 (nowAt d (at_ + 1)) = _
  obtain rfl | rfl : slot = 0 ∨ slot = 1 := by omega
  · rw [h5]
    have e1 : opStep { at_ := at_, slot := 0, turn := 0, text := [] } 0 (sectS t text) = { at_ := at_, slot := 0, turn := turn, text := text } := by
      unfold opStep
      rw [if_pos (hv _ (by simp only; omega)), turnI_sect ht, sectS_text t (by omega), h1]
    rw [e1]
    unfold opStep
    rw [if_neg]
    rintro ⟨_, hn, _⟩
    simp only at hn
    rcases h6 with h6 | ⟨c, hc, h7, h6⟩
    · rw [show at_ + 1 = at_ + (1 - 0) from rfl, h6, turnI_zero, h1] at hn
      omega
    · rw [show at_ + 1 = at_ + (1 - 0) from rfl, h6, turnI_sect (by omega), h1] at hn
      omega
  · have e1 : (opStep { at_ := at_, slot := 0, turn := 0, text := [] } 0 (nowAt d (at_ + 0))).turn < t ∧ (opStep { at_ := at_, slot := 0, turn := 0, text := [] } 0 (nowAt d (at_ + 0))).at_ = at_ := by
      rw [show at_ + 0 = at_ + (1 - 1) from rfl]
      unfold opStep
      rcases h6 with h6 | ⟨c, hc, h7, h6⟩
      · rw [h6]
        have hz : turnI zero64 < (t : Int) := by rw [turnI_zero]; omega
        generalize zero64 = zz at hz ⊢
        split
        · exact ⟨hz, rfl⟩
        · exact ⟨by show (0 : Int) < t; omega, rfl⟩
      · rw [h6]
        split
        · exact ⟨by show turnI (sectS (t - 1) c) < _; rw [turnI_sect (by omega)]; omega, rfl⟩
        · exact ⟨by show (0 : Int) < t; omega, rfl⟩
    obtain ⟨e1, e2⟩ := e1
    generalize opStep { at_ := at_, slot := 0, turn := 0, text := [] } 0 (nowAt d (at_ + 0)) = q at *
    obtain ⟨qa, qs, qt, qx⟩ := q
    simp only at e1 e2
    subst e2
    rw [h5]
    unfold opStep
    rw [if_pos (hv _ e1), turnI_sect ht, sectS_text t (by omega), h1]
theorem Slots.congr {d d' : Dv} {p : Sp} {t : Nat} (h : Slots d p t) (h0 : nowAt d' (p.at_ + 0) = nowAt d (p.at_ + 0)) (h1 : nowAt d' (p.at_ + 1) = nowAt d (p.at_ + 1)) : Slots d' p t := by
  have h2 : ∀ k, k ≤ 1 → nowAt d' (p.at_ + k) = nowAt d (p.at_ + k) := fun k hk => by
    obtain rfl | rfl : k = 0 ∨ k = 1 := by omega
    · exact h0
    · exact h1
  exact ⟨h.turn, h.pos, h.slot, h.len, by rw [h2 _ h.slot]; exact h.here, by rw [h2 _ (by omega)]; exact h.there⟩
theorem Slots.crash {d : Dv} {p : Sp} {t : Nat} (h : Slots d p t) (hc : d.clean) (ks : List Bool) : Slots (d.crash ks) p t :=
  h.congr (nowAt_crash_clean hc ks _) (nowAt_crash_clean hc ks _)
/-- a save on a device -/
def sav (d : Dv) (p : Sp) (t : Nat) (b : List UInt8) : Dv := (d.put (p.at_ + (1 - p.slot)) (sectS (t + 1) b)).flush
def nextP (p : Sp) (t : Nat) (b : List UInt8) : Sp := { p with slot := 1 - p.slot, turn := ((t + 1 : Nat) : Int), text := b }
theorem Slots.saved {d : Dv} {p : Sp} {t : Nat} (h : Slots d p t) (hd : d.ok) (hk : p.at_ + 1 < d.l.length) {b : List UInt8} (hb : b.length ≤ 40) : Slots (sav d p t b) (nextP p t b) (t + 1) := by
  have hs := h.slot
  have hx := sectS_length (t + 1) (b := b) (by omega)
  have hn := nowAt_put d (i := p.at_ + (1 - p.slot)) (by omega) hd hx
  refine ⟨rfl, by omega, by show 1 - p.slot ≤ 1; omega, hb, ?_, .inr ⟨p.text, h.len, by have := h.pos; omega, ?_⟩⟩
  · show nowAt (sav d p t b) (p.at_ + (1 - p.slot)) = sectS (t + 1) b
    rw [sav, nowAt_flush, hn, if_pos rfl]
  · show nowAt (sav d p t b) (p.at_ + (1 - (1 - p.slot))) = sectS (t + 1 - 1) p.text
    rw [sav, nowAt_flush, hn, if_neg (by omega), show 1 - (1 - p.slot) = p.slot by omega, h.here]
    rfl
theorem sav_other (d : Dv) (hd : d.ok) {p : Sp} (hk : p.at_ + 1 < d.l.length) (t : Nat) {b : List UInt8} (hb : b.length ≤ 40) {j : Nat} (hj : j ≠ p.at_ ∧ j ≠ p.at_ + 1) (hs : p.slot ≤ 1) : nowAt (sav d p t b) j = nowAt d j := by
  rw [sav, nowAt_flush, nowAt_put d (by omega) hd (sectS_length _ (by omega)), if_neg (by omega)]
theorem sav_ok {d : Dv} (hd : d.ok) (hl : d.live) (p : Sp) (t : Nat) {b : List UInt8} (hb : b.length ≤ 40) : (sav d p t b).ok := by
  have hx := sectS_length (t + 1) (b := b) (by omega)
  exact Dv.flush_ok (Dv.put_ok hd hl.notDead (by omega)) (live_put hl _ _).notDead
theorem sav_live {d : Dv} (hl : d.live) (p : Sp) (t : Nat) (b : List UInt8) : (sav d p t b).live := live_put hl (p.at_ + (1 - p.slot)) (sectS (t + 1) b)
theorem sav_length (d : Dv) (p : Sp) (t : Nat) (b : List UInt8) : (sav d p t b).l.length = d.l.length := by simp [sav, Dv.put, Dv.flush]
theorem zputs_now (d : Dv) (hd : d.ok) (hl : d.live) (at_ : Nat) (hk : at_ + 1 < d.l.length) (j : Nat) : nowAt (zputs at_ 2 d) j = if j = at_ ∨ j = at_ + 1 then zero64 else nowAt d j := by
  have h1 := nowAt_put (zputs at_ 1 d) (i := at_ + 1) (by rw [zputs_length]; exact hk) (zputs_ok hd hl at_ 1) (b := zero64) rfl j
  have h0 := nowAt_put (zputs at_ 0 d) (i := at_ + 0) (by rw [zputs_length]; omega) (zputs_ok hd hl at_ 0) (b := zero64) rfl j
  show nowAt ((zputs at_ 1 d).put (at_ + 1) zero64) j = _
  rw [h1]
  by_cases e1 : at_ + 1 = j
  · rw [if_pos e1, if_pos (by omega)]
  · rw [if_neg e1]
    show nowAt ((zputs at_ 0 d).put (at_ + 0) zero64) j = _
    rw [h0]
    by_cases e0 : at_ = j
    · rw [if_pos (by omega), if_pos (by omega)]
    · rw [if_neg (by omega), if_neg (by omega)]
      rfl
theorem mkD_ok {d : Dv} (hd : d.ok) (hl : d.live) (at_ : Nat) {b : List UInt8} (hb : b.length ≤ 40) : (mkD d at_ b).ok := by
  have hx := sectS_length 1 (b := b) (by omega)
  exact Dv.flush_ok (Dv.put_ok (zputs_ok hd hl at_ 2) (zputs_live hl at_ 2).notDead (by omega)) (live_put (zputs_live hl at_ 2) _ _).notDead
theorem mkD_length (d : Dv) (at_ : Nat) (b : List UInt8) : (mkD d at_ b).l.length = d.l.length := by
  have := zputs_length d at_ 2
  simp [mkD, Dv.put, Dv.flush, this]
theorem mkD_now (d : Dv) (hd : d.ok) (hl : d.live) (at_ : Nat) (hk : at_ + 1 < d.l.length) {b : List UInt8} (hb : b.length ≤ 40) (j : Nat) : nowAt (mkD d at_ b) j = if j = at_ then sectS 1 b else if j = at_ + 1 then zero64 else nowAt d j := by
  have hx := sectS_length 1 (b := b) (by omega)
  rw [mkD, nowAt_flush, nowAt_put (zputs at_ 2 d) (by rw [zputs_length]; omega) (zputs_ok hd hl at_ 2) hx, zputs_now d hd hl at_ hk]
  by_cases e : j = at_
  · subst e
    rw [if_pos rfl, if_pos rfl]
  · have e' : ¬ at_ = j := fun h => e h.symm
    rw [if_neg e']
    by_cases e1 : j = at_ + 1
    · have h2 : j = at_ ∨ j = at_ + 1 := .inr e1
      rw [if_pos h2]
      simp only [e, e1, if_true, if_false]
      rw [if_neg (by omega)]
    · have h2 : ¬ (j = at_ ∨ j = at_ + 1) := by omega
      rw [if_neg h2]
      simp only [e, e1, if_false]
theorem Slots.made (d : Dv) (hd : d.ok) (hl : d.live) (at_ : Nat) (hk : at_ + 1 < d.l.length) {b : List UInt8} (hb : b.length ≤ 40) : Slots (mkD d at_ b) { at_ := at_, slot := 0, turn := 1, text := b } 1 := by
  have hn := mkD_now d hd hl at_ hk hb
  refine ⟨rfl, Nat.le_refl _, Nat.zero_le _, hb, ?_, .inl ?_⟩
  · show nowAt (mkD d at_ b) (at_ + 0) = sectS 1 b
    rw [hn, if_pos (Nat.add_zero _)]
  · show nowAt (mkD d at_ b) (at_ + 1) = _
    rw [hn, if_neg (by omega), if_pos rfl]
/-- a save, on a live device -/
theorem swr_sav {d : Dv} (hl : d.live) (p : Sp) (t : Nat) (b : List UInt8) : swr d (p.at_ + (1 - p.slot)) (sectS (t + 1) b) = (sav d p t b, 0) := swr_live hl _ _
section walks
variable (W0 : World) (S L0 : List Seg) (bs bd bl : Nat)
theorem save_live (d : Dv) (hd : d.ok) (hl : d.live) (p : Sp) (sg : Seg) (hsg : SpIs bs bd p sg) (t : Nat) (ht : Slots d p t) (ht2 : t < 1000000) (hk : p.at_ + 1 < d.l.length) (a : Option Addr) (m c : Nat) (b : List UInt8) (hm : m = b.length) (hb : b.length ≤ 40) (hr : ∀ S : List Seg, Rd W0 (S ++ L0) a (bytesV b)) :
    FnS Try.prog W0 27 #[ptr bs, .slice a m c] (sg :: devSeg bd bl d :: L0)
      (fun e L' => ∃ sg', L' = sg' :: devSeg bd bl (sav d p t b) :: L0 ∧ SpIs bs bd (nextP p t b) sg' ∧ e = .returned (.int .i64 0)) := by
  subst hm
  refine (save_spec W0 L0 bs bd bl d hd p sg hsg t ht.turn ht2 ht.slot hk a c b hb hr).mono ?_
  rintro e L' ⟨sg', h1, h2, h3⟩
  rw [swr_sav hl, if_pos rfl] at h2
  rw [swr_sav hl] at h1 h3
  exact ⟨sg', h1, h2, h3⟩
theorem open_slots (d : Dv) (hd : d.ok) (p : Sp) (t : Nat) (ht : Slots d p t) (ht2 : t < 1000000) (hat : p.at_ + 1 < d.l.length) {i : Int} (hi : (p.at_ : Int) = i) :
    FnS Try.prog W0 28 #[ptr bd, .int .i64 i] (S ++ (devSeg bd bl d :: L0))
      (fun e L' => ∃ bs sg, SpIs bs bd p sg ∧ L' = sg :: (S ++ (devSeg bd bl d :: L0)) ∧ e = .returned (.tuple #[ptr bs, .int .i64 0])) := by
  subst hi
  refine (open_spec W0 S L0 bd bl d hd p.at_ hat).mono ?_
  rintro e L' h
  rw [ht.opened ht2] at h
  rcases h with ⟨h1, _⟩ | ⟨_, h⟩
  · rw [ht.turn] at h1
    have := ht.pos
    omega
  · exact h
end walks
end Go.Proofs.Ytjfjmhmfhkdcbab
