/-
  The log on its device, plainly: sectors written out of the ring, saves, crashes.
-/
import Derived.Test.YtjfjmhmfhkdcbabWl3
namespace Go.Proofs.Ytjfjmhmfhkdcbab
open Go Go.SL Go.RowKit

def lby (d : Dv) (p : Nat) : UInt8 := ((lastAt d (386 + p / 64))[p % 64]?).getD 0
def secR (R : Nat → UInt8) (i : Nat) : List UInt8 := (List.range 64).map fun j => R (64 * i + j)
theorem secR_length (R : Nat → UInt8) (i : Nat) : (secR R i).length = 64 := by simp [secR]
theorem secR_at (R : Nat → UInt8) (i : Nat) {j : Nat} (hj : j < 64) : (secR R i)[j]? = some (R (64 * i + j)) := by
  unfold secR
  rw [List.getElem?_map, List.getElem?_range hj]
  rfl
theorem lastAt_put (d : Dv) (i : Nat) (b : List UInt8) (j : Nat) : lastAt (d.put i b) j = lastAt d j := by
  unfold lastAt Dv.put
  simp only
  rw [List.getElem?_modify]
  by_cases h : i = j
  · subst h
    simp only [if_true]
    cases d.l[i]? <;> rfl
  · simp only [if_neg h]
    cases d.l[j]? <;> rfl
theorem lastAt_flush (d : Dv) (j : Nat) : lastAt d.flush j = nowAt d j := by
  unfold lastAt nowAt Dv.flush
  simp only [List.getElem?_map]
  cases d.l[j]? <;> rfl
theorem nowAt_crashOr (d : Dv) (ks : List Bool) (j : Nat) : nowAt (d.crash ks) j = nowAt d j ∨ nowAt (d.crash ks) j = lastAt d j := by
  rw [nowAt_crash]
  unfold nowAt lastAt
  cases d.l[j]? with
  | none => exact .inl rfl
  | some s =>
    simp only [kept]
    split
    · exact .inl rfl
    · exact .inr rfl
theorem lastAt_crash (d : Dv) (ks : List Bool) (j : Nat) : lastAt (d.crash ks) j = nowAt (d.crash ks) j := by
  unfold lastAt nowAt
  cases hj : (d.crash ks).l[j]? with
  | none => rfl
  | some s => exact (crash_clean d ks s (List.mem_of_getElem? hj)).2
theorem put_len (d : Dv) (i : Nat) (b : List UInt8) : (d.put i b).l.length = d.l.length := by simp [Dv.put]
theorem flush_len (d : Dv) : d.flush.l.length = d.l.length := by simp [Dv.flush]
theorem dby_put (d : Dv) (hd : d.ok) (hn : d.l.length = 1410) (R : Nat → UInt8) {i : Nat} (hi : i < 1024) (p : Nat) : dby (d.put (386 + i) (secR R i)) p = if p / 64 = i then R p else dby d p := by
  unfold dby
  rw [nowAt_put d (by omega) hd (secR_length R i)]
  by_cases h : p / 64 = i
  · rw [if_pos (by omega), if_pos h, secR_at R i (Nat.mod_lt _ (by decide)), show 64 * i + p % 64 = p by omega]
    rfl
  · rw [if_neg (by omega), if_neg h]
theorem lby_put (d : Dv) (i : Nat) (b : List UInt8) (p : Nat) : lby (d.put i b) p = lby d p := by unfold lby; rw [lastAt_put]
theorem dby_low (d : Dv) (hd : d.ok) {i : Nat} (hi : i < 386) (hl : i < d.l.length) {b : List UInt8} (hb : b.length = 64) (p : Nat) : dby (d.put i b) p = dby d p := by
  unfold dby
  rw [nowAt_put d hl hd hb, if_neg (by omega)]
theorem dby_flush (d : Dv) (p : Nat) : dby d.flush p = dby d p := by unfold dby; rw [nowAt_flush]
theorem lby_flush (d : Dv) (p : Nat) : lby d.flush p = dby d p := by unfold lby dby; rw [lastAt_flush]
theorem Has.congr {R R' : Nat → UInt8} {a : Nat} {xs : List UInt8} (h : Has R a xs) (e : ∀ p, R' p = R p) : Has R' a xs := fun j hj => by rw [e]; exact h j hj
theorem Has.crash {d : Dv} {a : Nat} {xs : List UInt8} (h1 : Has (dby d) a xs) (h2 : Has (lby d) a xs) (ks : List Bool) : Has (dby (d.crash ks)) a xs := fun j hj => by
  unfold dby
  rcases nowAt_crashOr d ks (386 + (a + j) % 65536 / 64) with h | h
  · rw [h]; exact h1 j hj
  · rw [h]; exact h2 j hj
/-- the log's device: what lasts from the base on, and that the text says so -/
structure Wd (d : Dv) (p : Sp) (t : Nat) (base : Nat) (xs : List UInt8) : Prop where
  ok : d.ok
  len : d.l.length = 1410
  sl : Slots d p t
  pa : p.at_ = 0
  text : p.text = txt base (base + xs.length)
  quiet : ∀ k, k ≤ 1 → lastAt d k = nowAt d k
  now : Has (dby d) base xs
  last : Has (lby d) base xs
theorem Wd.crash {d : Dv} {p : Sp} {t base : Nat} {xs : List UInt8} (h : Wd d p t base xs) (ks : List Bool) : Wd (d.crash ks) p t base xs := by
  have hq : ∀ k, k ≤ 1 → nowAt (d.crash ks) k = nowAt d k := fun k hk => by
    rcases nowAt_crashOr d ks k with e | e
    · exact e
    · rw [e]; exact h.quiet k hk
  have hh := h.now.crash h.last ks
  refine ⟨crash_ok h.ok ks, by rw [crash_len]; exact h.len, h.sl.congr ?_ ?_, h.pa, h.text, fun k _ => lastAt_crash d ks k, hh, ?_⟩
  · rw [h.pa]; exact hq 0 (by decide)
  · rw [h.pa]; exact hq 1 (by decide)
  · exact hh.congr (fun p => by unfold lby dby; rw [lastAt_crash])
/-- a sector of the ring is written -/
theorem Wd.put {d : Dv} {p : Sp} {t base : Nat} {xs : List UInt8} (h : Wd d p t base xs) (hdead : d.isDead = false) {R : Nat → UInt8} (hR : Has R base xs) {i : Nat} (hi : i < 1024) : Wd (d.put (386 + i) (secR R i)) p t base xs := by
  have hs := secR_length R i
  have hl : 386 + i < d.l.length := by rw [h.len]; omega
  have hlow : ∀ k, k ≤ 1 → nowAt (d.put (386 + i) (secR R i)) k = nowAt d k := fun k hk => by rw [nowAt_put d hl h.ok hs, if_neg (by omega)]
  refine ⟨Dv.put_ok h.ok hdead (by omega), by rw [put_len]; exact h.len, h.sl.congr ?_ ?_, h.pa, h.text, fun k hk => ?_, fun j hj => ?_, h.last.congr (lby_put d _ _)⟩
  · rw [h.pa]; exact hlow 0 (by decide)
  · rw [h.pa]; exact hlow 1 (by decide)
  · rw [lastAt_put, hlow k hk]; exact h.quiet k hk
  · rw [dby_put d h.ok h.len R hi]
    split
    · exact hR j hj
    · exact h.now j hj
/-- the places whose bytes the device has as the ring has them -/
def Cov (d : Dv) (R : Nat → UInt8) (lo hi : Nat) : Prop := ∀ q, lo ≤ q → q < hi → dby d (q % 65536) = R (q % 65536)
theorem Cov.nil (d : Dv) (R : Nat → UInt8) (lo : Nat) : Cov d R lo lo := fun _ h1 h2 => absurd h1 (by omega)
theorem Cov.put {d : Dv} (hd : d.ok) (hn : d.l.length = 1410) {R : Nat → UInt8} {lo k : Nat} (h : Cov d R lo (64 * k)) : Cov (d.put (386 + k % 1024) (secR R (k % 1024))) R lo (64 * (k + 1)) := fun q h1 h2 => by
  rw [dby_put d hd hn R (Nat.mod_lt _ (by decide))]
  by_cases hq : q < 64 * k
  · split
    · rfl
    · exact h q h1 hq
  · rw [if_pos (by omega)]
theorem Cov.has {d : Dv} {R : Nat → UInt8} {lo hi a : Nat} {xs : List UInt8} (h : Cov d R lo hi) (h1 : lo ≤ a) (h2 : a + xs.length ≤ hi) (hR : Has R a xs) : Has (dby d) a xs := fun j hj => by
  rw [h (a + j) (by omega) (by omega)]
  exact hR j hj
theorem Wd.flush {d : Dv} {p : Sp} {t base : Nat} {xs : List UInt8} (h : Wd d p t base xs) (hdead : d.isDead = false) : Wd d.flush p t base xs := by
  refine ⟨Dv.flush_ok h.ok hdead, by rw [flush_len]; exact h.len, h.sl.congr (nowAt_flush _ _) (nowAt_flush _ _), h.pa, h.text, fun k _ => by rw [lastAt_flush, nowAt_flush], h.now.congr (dby_flush d), h.now.congr (lby_flush d)⟩
/-- a text saved: there, or in doubt -/
theorem Wd.saved {d : Dv} {p : Sp} {t base : Nat} {xs : List UInt8} (h : Wd d p t base xs) (b2 : Nat) (zs : List UInt8) (hn : Has (dby d) b2 zs) (hl : Has (lby d) b2 zs) (hb : b2 + zs.length < 1099511627776) :
    (((swr d (p.at_ + (1 - p.slot)) (sectS (t + 1) (txt b2 (b2 + zs.length)))).2 = 0 ∧ Wd (swr d (p.at_ + (1 - p.slot)) (sectS (t + 1) (txt b2 (b2 + zs.length)))).1 (nextP p t (txt b2 (b2 + zs.length))) (t + 1) b2 zs) ∨
      ((swr d (p.at_ + (1 - p.slot)) (sectS (t + 1) (txt b2 (b2 + zs.length)))).2 = 5 ∧ (swr d (p.at_ + (1 - p.slot)) (sectS (t + 1) (txt b2 (b2 + zs.length)))).1.ok ∧ (swr d (p.at_ + (1 - p.slot)) (sectS (t + 1) (txt b2 (b2 + zs.length)))).1.l.length = 1410 ∧ ¬ d.live ∧
        ∀ ks, Wd ((swr d (p.at_ + (1 - p.slot)) (sectS (t + 1) (txt b2 (b2 + zs.length)))).1.crash ks) p t base xs ∨ Wd ((swr d (p.at_ + (1 - p.slot)) (sectS (t + 1) (txt b2 (b2 + zs.length)))).1.crash ks) (nextP p t (txt b2 (b2 + zs.length))) (t + 1) b2 zs)) ∧
      (d.live → (swr d (p.at_ + (1 - p.slot)) (sectS (t + 1) (txt b2 (b2 + zs.length)))).1.live) := by
  have htl := txt_length (b := b2) (e := b2 + zs.length) (by omega) hb
  generalize hb2 : txt b2 (b2 + zs.length) = b at *
  have hx := sectS_length (t + 1) (b := b) (by omega)
  have hpa := h.pa
  have hsl := h.sl.slot
  have hlen := h.len
  have hix : p.at_ + (1 - p.slot) < d.l.length := by omega
  have hnow := nowAt_put d hix h.ok hx
  have hlow := dby_low d h.ok (i := p.at_ + (1 - p.slot)) (by omega) hix hx
  have hsav := h.sl.saved h.ok (by omega) (b := b) (by omega)
  have hput : ¬ d.isDead = true → (d.put (p.at_ + (1 - p.slot)) (sectS (t + 1) b)).ok := fun hd => Dv.put_ok h.ok (by simpa using hd) (by omega)
  by_cases h1 : d.isDead = true
  · have he : swr d (p.at_ + (1 - p.slot)) (sectS (t + 1) b) = (d, 5) := by unfold swr; rw [if_pos h1]
    rw [he]
    exact ⟨.inr ⟨rfl, h.ok, h.len, (fun hv => by rw [hv.notDead] at h1; cases h1), fun ks => .inl (h.crash ks)⟩, fun hv => hv⟩
  · by_cases h2 : (d.put (p.at_ + (1 - p.slot)) (sectS (t + 1) b)).isDead = true
    · have he : swr d (p.at_ + (1 - p.slot)) (sectS (t + 1) b) = (d.put (p.at_ + (1 - p.slot)) (sectS (t + 1) b), 5) := by unfold swr; rw [if_neg h1, if_pos h2]
      rw [he]
      refine ⟨.inr ⟨rfl, hput h1, by rw [put_len]; exact h.len, (fun hv => by rw [(live_put hv _ _).notDead] at h2; cases h2), fun ks => ?_⟩, fun hv => live_put hv _ _⟩
      -- the other slot has the new text or the one ahead
      have keep : nowAt ((d.put (p.at_ + (1 - p.slot)) (sectS (t + 1) b)).crash ks) (p.at_ + p.slot) = nowAt d (p.at_ + p.slot) := by
        rcases nowAt_crashOr (d.put (p.at_ + (1 - p.slot)) (sectS (t + 1) b)) ks (p.at_ + p.slot) with e | e
        · rw [e, hnow, if_neg (by omega)]
        · rw [e, lastAt_put, h.pa]
          have := h.quiet (0 + p.slot) (by omega)
          exact this
      have kept_ : nowAt ((d.put (p.at_ + (1 - p.slot)) (sectS (t + 1) b)).crash ks) (p.at_ + (1 - p.slot)) = sectS (t + 1) b ∨ nowAt ((d.put (p.at_ + (1 - p.slot)) (sectS (t + 1) b)).crash ks) (p.at_ + (1 - p.slot)) = nowAt d (p.at_ + (1 - p.slot)) := by
        rcases nowAt_crashOr (d.put (p.at_ + (1 - p.slot)) (sectS (t + 1) b)) ks (p.at_ + (1 - p.slot)) with e | e
        · left; rw [e, hnow, if_pos rfl]
        · right
          rw [e, lastAt_put, h.pa]
          exact h.quiet (0 + (1 - p.slot)) (by omega)
      have hn1 : Has (dby (d.put (p.at_ + (1 - p.slot)) (sectS (t + 1) b))) base xs := h.now.congr hlow
      have hl1 : Has (lby (d.put (p.at_ + (1 - p.slot)) (sectS (t + 1) b))) base xs := h.last.congr (lby_put d _ _)
      have hn2 : Has (dby (d.put (p.at_ + (1 - p.slot)) (sectS (t + 1) b))) b2 zs := hn.congr hlow
      have hl2 : Has (lby (d.put (p.at_ + (1 - p.slot)) (sectS (t + 1) b))) b2 zs := hl.congr (lby_put d _ _)
      have hok := crash_ok (hput h1) ks
      have hcl : ((d.put (p.at_ + (1 - p.slot)) (sectS (t + 1) b)).crash ks).l.length = 1410 := by rw [crash_len, put_len]; exact h.len
      have hlc : ∀ p', lby ((d.put (p.at_ + (1 - p.slot)) (sectS (t + 1) b)).crash ks) p' = dby ((d.put (p.at_ + (1 - p.slot)) (sectS (t + 1) b)).crash ks) p' := fun p' => by unfold lby dby; rw [lastAt_crash]
      have hc1 := hn1.crash hl1 ks
      have hc2 := hn2.crash hl2 ks
      have hqc := fun k => lastAt_crash (d.put (p.at_ + (1 - p.slot)) (sectS (t + 1) b)) ks k
      generalize (d.put (p.at_ + (1 - p.slot)) (sectS (t + 1) b)).crash ks = dc at *
      rcases kept_ with e | e
      · right
        refine ⟨hok, hcl, ?_, h.pa, hb2.symm, fun k _ => hqc k, hc2, hc2.congr hlc⟩
        have hs := h.sl
        refine ⟨rfl, by omega, by show 1 - p.slot ≤ 1; omega, by show b.length ≤ 40; omega, e, .inr ⟨p.text, hs.len, by have := hs.pos; omega, ?_⟩⟩
        show nowAt dc (p.at_ + (1 - (1 - p.slot))) = sectS (t + 1 - 1) p.text
        rw [show 1 - (1 - p.slot) = p.slot by omega, keep, hs.here]
        rfl
      · left
        refine ⟨hok, hcl, h.sl.congr ?_ ?_, h.pa, h.text, fun k _ => hqc k, hc1, hc1.congr hlc⟩
        · obtain hp | hp : p.slot = 0 ∨ p.slot = 1 := by omega
          · rw [hp] at keep; exact keep
          · rw [hp] at e; exact e
        · obtain hp | hp : p.slot = 0 ∨ p.slot = 1 := by omega
          · rw [hp] at e; exact e
          · rw [hp] at keep; exact keep
    · have he : swr d (p.at_ + (1 - p.slot)) (sectS (t + 1) b) = (sav d p t b, 0) := by unfold swr; rw [if_neg h1, if_neg h2]; rfl
      rw [he]
      refine ⟨.inl ⟨rfl, Dv.flush_ok (hput h1) (by simpa using h2), by rw [sav_length]; exact h.len, hsav, h.pa, hb2.symm, fun k _ => ?_, ?_, ?_⟩, fun hv => sav_live hv p t b⟩
      · show lastAt (Dv.flush _) k = nowAt (Dv.flush _) k
        rw [lastAt_flush, nowAt_flush]
      · exact hn.congr (fun q => by show dby (Dv.flush _) q = _; rw [dby_flush]; exact hlow q)
      · exact hn.congr (fun q => by show lby (Dv.flush _) q = _; rw [lby_flush]; exact hlow q)
end Go.Proofs.Ytjfjmhmfhkdcbab
