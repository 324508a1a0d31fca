/-
  The device: what it holds, told plainly, and how it lies in memory, in blocks of any capacity.
-/
import Derived.Test.YtokggoikffcijaaGreatDoorK1
import Derived.Test.YtokggoikffcijaaGreatDoorTy
namespace Go.Proofs.YtokggoikffcijaaGreatDoor
open Go Go.SL Go.RowKit

structure Sec where
  now : List UInt8
  lasts : List UInt8
  loose : Bool
structure Dv where
  l : List Sec
  calls : Int
  lit : Bool
  fuse : Int
  dead : Bool
def Sec.ok (s : Sec) : Prop := s.now.length = 64 ∧ s.lasts.length = 64
def Dv.ok (d : Dv) : Prop := (∀ s ∈ d.l, s.ok) ∧ d.l.length ≤ 2048 ∧ 0 ≤ d.fuse ∧ d.fuse ≤ 9223372036854775807
def Sec.cs (s : Sec) : List Value := bytesV s.now ++ (bytesV s.lasts ++ [.bool s.loose])
def secsV (l : List Sec) : List Value := l.flatMap Sec.cs
abbrev devRow (bl : Nat) (d : Dv) : List Value := [.slice (some ⟨bl, 0, none⟩) d.l.length d.l.length, .int .i64 d.calls, .bool d.lit, .int .i64 d.fuse, .bool d.dead]
abbrev devSeg (kd kl bd bl : Nat) (d : Dv) : Seg := [(bd, .row (devRow bl d) 116 kd), (bl, .row (secsV d.l) 119 kl)]
def Dv.isDead (d : Dv) : Bool := d.dead || (d.lit && decide (d.fuse = 0))
def inc (z : Int) : Int := IntKind.i64.wrap (z + 1)
def Dv.burn (d : Dv) : Dv := { d with fuse := if d.lit then d.fuse - 1 else d.fuse, calls := inc d.calls }
def over (b s : List UInt8) : List UInt8 := b ++ s.drop b.length
def Sec.put (s : Sec) (b : List UInt8) : Sec := { s with now := over b s.now, loose := true }
def Sec.flush (s : Sec) : Sec := { s with lasts := s.now, loose := false }
def Dv.put (d : Dv) (i : Nat) (b : List UInt8) : Dv := { d.burn with l := d.l.modify i (·.put b) }
def Dv.flush (d : Dv) : Dv := { d.burn with l := d.l.map Sec.flush }
def zero64 : List UInt8 := List.replicate 64 0
def zeroSec : Sec := { now := zero64, lasts := zero64, loose := false }
def newDv (n : Nat) : Dv := { l := List.replicate n zeroSec, calls := 0, lit := false, fuse := 0, dead := false }
def looseAt (l : List Sec) (i : Nat) : Bool := match l[i]? with | some s => s.loose | none => false
def looses : List Sec → Nat → List Int
  | [], _ => []
  | s :: l, i => (if s.loose then [(i : Int)] else []) ++ looses l (i + 1)

theorem over_length {b s : List UInt8} (h : b.length ≤ s.length) : (over b s).length = s.length := by simp [over]; omega
theorem Sec.cs_length {s : Sec} (h : s.ok) : s.cs.length = 129 := by
  obtain ⟨h1, h2⟩ := h
  simp [Sec.cs, h1, h2]
theorem secs_chunk {l : List Sec} (h : ∀ s ∈ l, s.ok) : ∀ s ∈ l, (Sec.cs s).length = 129 := fun s hs => Sec.cs_length (h s hs)
theorem secsV_length {l : List Sec} (h : ∀ s ∈ l, s.ok) : (secsV l).length = 129 * l.length := chunk_length (secs_chunk h)
theorem cs_now {s : Sec} (h : s.ok) {j : Nat} (hj : j < 64) : s.cs[j]? = (bytesV s.now)[j]? := by
  unfold Sec.cs
  exact List.getElem?_append_left (by rw [bytesV_length, h.1]; exact hj)
theorem cs_lasts {s : Sec} (h : s.ok) {j : Nat} (hj : j < 64) : s.cs[64 + j]? = (bytesV s.lasts)[j]? := by
  unfold Sec.cs
  rw [List.getElem?_append_right (by rw [bytesV_length, h.1]; omega), bytesV_length, h.1, show 64 + j - 64 = j by omega]
  exact List.getElem?_append_left (by rw [bytesV_length, h.2]; exact hj)
theorem cs_loose {s : Sec} (h : s.ok) : s.cs[128]? = some (.bool s.loose) := by
  unfold Sec.cs
  rw [List.getElem?_append_right (by rw [bytesV_length, h.1]; omega), bytesV_length, h.1, List.getElem?_append_right (by rw [bytesV_length, h.2]; omega), bytesV_length, h.2]
  rfl
theorem now_at {l : List Sec} (h : ∀ s ∈ l, s.ok) {i j : Nat} (hi : i < l.length) (hj : j < 64) : (secsV l)[129 * i + j]? = (bytesV l[i].now)[j]? := by
  rw [← cs_now (h _ (List.getElem_mem hi)) hj]
  exact chunk_get (secs_chunk h) (by omega) hi
theorem lasts_at {l : List Sec} (h : ∀ s ∈ l, s.ok) {i j : Nat} (hi : i < l.length) (hj : j < 64) : (secsV l)[129 * i + 64 + j]? = (bytesV l[i].lasts)[j]? := by
  rw [← cs_lasts (h _ (List.getElem_mem hi)) hj, Nat.add_assoc]
  exact chunk_get (secs_chunk h) (by omega) hi
theorem loose_at {l : List Sec} (h : ∀ s ∈ l, s.ok) {i : Nat} (hi : i < l.length) : (secsV l)[129 * i + 128]? = some (.bool l[i].loose) := by
  rw [← cs_loose (h _ (List.getElem_mem hi))]
  exact chunk_get (secs_chunk h) (by omega) hi
theorem cs_put {s : Sec} (h : s.ok) {b : List UInt8} (hb : b.length ≤ 64) : (Sec.cs s).take 0 ++ bytesV b ++ (Sec.cs s).drop (0 + (bytesV b).length) = Sec.cs { s with now := over b s.now } := by
  obtain ⟨h1, h2⟩ := h
  simp only [List.take_zero, List.nil_append, Nat.zero_add, bytesV_length, Sec.cs, over, bytesV_append]
  rw [List.drop_append_of_le_length (by rw [bytesV_length]; omega), bytesV_drop]
  simp
theorem cs_setLoose {s : Sec} (h : s.ok) (x : Bool) : (Sec.cs s).set 128 (.bool x) = Sec.cs { s with loose := x } := by
  obtain ⟨h1, h2⟩ := h
  unfold Sec.cs
  rw [List.set_append_right _ _ (by rw [bytesV_length, h1]; omega), bytesV_length, h1, List.set_append_right _ _ (by rw [bytesV_length, h2]; omega), bytesV_length, h2]
  rfl
theorem cs_setLasts {s : Sec} (h : s.ok) {v : List UInt8} (hv : v.length = 64) : (Sec.cs s).take 64 ++ bytesV v ++ (Sec.cs s).drop (64 + (bytesV v).length) = Sec.cs { s with lasts := v } := by
  obtain ⟨h1, h2⟩ := h
  have e1 : (bytesV s.now).length = 64 := by simp [h1]
  have e2 : (bytesV s.lasts).length = 64 := by simp [h2]
  unfold Sec.cs
  rw [bytesV_length, hv, List.take_append_of_le_length (by omega), List.take_of_length_le (by omega), show 64 + 64 = (bytesV s.now).length + 64 by omega, List.drop_length_add_append, List.drop_append_of_le_length (by omega), List.drop_of_length_le (by omega)]
  simp
theorem zeroSec_ok : zeroSec.ok := by constructor <;> rfl
theorem newDv_ok {n : Nat} (h : n ≤ 2048) : (newDv n).ok := by
  refine ⟨fun s hs => ?_, by simpa [newDv] using h, by simp [newDv], by simp [newDv]⟩
  have := List.eq_of_mem_replicate hs
  subst this
  exact zeroSec_ok
theorem Dv.burn_ok {d : Dv} (h : d.ok) (hd : d.isDead = false) : d.burn.ok := by
  obtain ⟨h1, h2, h3, h4⟩ := h
  refine ⟨h1, h2, ?_, ?_⟩
  · simp only [Dv.burn]
    split
    · rename_i hl
      simp only [Dv.isDead, hl, Bool.true_and, Bool.or_eq_false_iff, decide_eq_false_iff_not] at hd
      omega
    · exact h3
  · simp only [Dv.burn]
    split <;> omega
theorem Sec.put_ok {s : Sec} (h : s.ok) {b : List UInt8} (hb : b.length ≤ 64) : (s.put b).ok := ⟨by simp only [Sec.put]; rw [over_length (by rw [h.1]; exact hb)]; exact h.1, h.2⟩
theorem ok_modify {l : List Sec} (h : ∀ s ∈ l, s.ok) {g : Sec → Sec} (hg : ∀ s, s.ok → (g s).ok) (i : Nat) : ∀ s ∈ l.modify i g, s.ok := by
  intro s hs
  obtain ⟨j, hj, rfl⟩ := List.mem_iff_getElem.1 hs
  simp only [List.length_modify] at hj
  rw [List.getElem_modify]
  have := h l[j] (List.getElem_mem hj)
  split
  · exact hg _ this
  · exact this
theorem Dv.put_ok {d : Dv} (h : d.ok) (hd : d.isDead = false) {i : Nat} {b : List UInt8} (hb : b.length ≤ 64) : (d.put i b).ok := by
  have h0 := Dv.burn_ok h hd
  exact ⟨ok_modify h.1 (fun s hs => Sec.put_ok hs hb) i, by simpa [Dv.put] using h.2.1, h0.2.2.1, h0.2.2.2⟩
theorem Dv.flush_ok {d : Dv} (h : d.ok) (hd : d.isDead = false) : d.flush.ok := by
  have h0 := Dv.burn_ok h hd
  refine ⟨fun s hs => ?_, by simpa [Dv.flush] using h.2.1, h0.2.2.1, h0.2.2.2⟩
  obtain ⟨t, ht, rfl⟩ := List.mem_map.1 hs
  exact ⟨(h.1 t ht).1, (h.1 t ht).1⟩
end Go.Proofs.YtokggoikffcijaaGreatDoor
