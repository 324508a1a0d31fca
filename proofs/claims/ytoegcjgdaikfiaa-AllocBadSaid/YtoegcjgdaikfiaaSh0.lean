/-
  Sheets: what has pages, told by what it answers; a sheet above it.
-/
import Derived.Test.YtoegcjgdaikfiaaDv1
import Derived.Test.YtoegcjgdaikfiaaSLM
import Derived.Test.YtoegcjgdaikfiaaSLA
import Derived.Test.YtoegcjgdaikfiaaSLX
namespace Go.Proofs.Ytoegcjgdaikfiaa
namespace Sht
open Go Go.SL Go.RowKit

theorem FnS.read {P : Program} {W0 : World} {f : FuncId} {args : Array Value} {L L1 : List Seg} {Q : Ending → Prop} (h : FnS P W0 f args L1 (fun e L' => L' = L1 ∧ Q e)) (hp : L.flatten.Perm L1.flatten) : FnS P W0 f args L (fun e L' => L' = L ∧ Q e) :=
  (h.perm hp).drop fun e L' ⟨h1, h2⟩ => ⟨L, fun w hw => by subst h1; exact hw.of_flat hp.symm, rfl, h2⟩

abbrev nilS : Value := .slice none 0 0
def zero256 : List UInt8 := List.replicate 256 0
theorem zero256_length : zero256.length = 256 := by simp only [zero256, List.length_replicate]
/-- what a page is answered with: its bytes, or an error -/
abbrev Ans := Int → Except Int (List UInt8)
/-- something that has pages: its type, its method Page, its value, its memory, its answers -/
structure Src (W0 : World) (t : TypeId) (f : FuncId) (x : Value) (S : Seg) (R : Ans) : Prop where
  ent : Enters Try.prog f
  meth : MethP Try.prog t "Page" f
  page : ∀ (L : List Seg) (no : Int), -9223372036854775808 ≤ no ∧ no ≤ 9223372036854775807 → FnS Try.prog W0 f #[x, .int .i64 no] (S :: L) (fun e L' => match R no with
    | .ok bs => ∃ a c so, OwnS (.slice a bs.length c) bs.length (bytesV bs) 5 1 so ∧ L' = so :: S :: L ∧ e = .returned (.tuple #[.slice a bs.length c, .int .i64 0])
    | .error c => L' = S :: L ∧ e = .returned (.tuple #[nilS, .int .i64 c]))
  small : ∀ no bs, R no = .ok bs → bs.length ≤ 1000000
  errs : ∀ no c, R no = .error c → c ≠ 0
/-- what lies below a sheet: nothing, or something that has pages -/
inductive Below1 (W0 : World) : Value → Seg → Ans → Prop
  | none : Below1 W0 .nilIface [] (fun _ => .error 5)
  | some {t : TypeId} {f : FuncId} {x : Value} {S : Seg} {R : Ans} : Src W0 t f x S R → Below1 W0 (.iface t x) S R
/-- what a sheet answers -/
def shR (mg : Int → Option (List UInt8)) (R : Ans) : Ans := fun no => if no < 0 ∨ 95 < no then .error 3 else match mg no with
  | some bs => .ok bs
  | none => R no
/-- what a map of texts has -/
structure MapIs (es : Ent) (ck : Nat) (mg : Int → Option (List UInt8)) : Prop where
  keys : (es.map (·.1)).Nodup
  born : (es.map (·.2.2)).Nodup
  old : ∀ e ∈ es, e.2.2 < ck
  val : ∀ k, mget es k = (mg k).map fun b => .string (strB b)
  size : ∀ k b, mg k = some b → b.length = 256
  rng : ∀ k, mg k ≠ none → 0 ≤ k ∧ k ≤ 95
/-- a sheet: its value, its map; what lies below -/
def ShIs (W0 : World) (bs : Nat) (mg : Int → Option (List UInt8)) (R : Ans) (S s : Seg) : Prop :=
  ∃ bm pv es ck, MapIs es ck mg ∧ Below1 W0 pv S R ∧ s = (bs, .row [pv, .map (some bm)] 56 2) :: (bm, mapO .i64 es ck) :: S
def setM (mg : Int → Option (List UInt8)) (no : Int) (b : List UInt8) : Int → Option (List UInt8) := fun k => if k = no then some b else mg k
theorem mfind_key {k : Int} : ∀ {es : Ent} {i j : Nat} {v : Value}, mfind k es i = some (j, v) → ∃ e ∈ es, e.1 = k ∧ e.2.1 = v := fun h => by
  obtain ⟨q, _, e, h1, h2, h3⟩ := mfind_some h
  exact ⟨e, List.mem_of_getElem? h1, h2, h3⟩
theorem mput_cases (es : Ent) (ck : Nat) (k : Int) (v : Value) : ((∀ e ∈ es, e.1 ≠ k) ∧ mput es ck k v = (es ++ [(k, v, ck)], ck + 1)) ∨ ∃ i, (mput es ck k v).1 = es.modify i (fun e => (k, v, e.2.2)) ∧ (mput es ck k v).2 = ck ∧ ∃ e, es[i]? = some e ∧ e.1 = k := by
  unfold mput
  cases h : mfind k es 0 with
  | none =>
    refine .inl ⟨fun e he hk => ?_, rfl⟩
    have key : ∀ (es : Ent) (i : Nat), e ∈ es → mfind k es i ≠ none := by
      intro es
      induction es with
      | nil => intro i h; cases h
      | cons x xs ih =>
        intro i hm
        simp only [mfind]
        split
        · simp
        · rename_i hx
          rcases List.mem_cons.1 hm with rfl | hm
          · exact absurd hk.symm hx
          · exact ih _ hm
    exact key es 0 he h
  | some p =>
    obtain ⟨i, v'⟩ := p
    obtain ⟨q, hq, e, h1, h2, _⟩ := mfind_some h
    refine .inr ⟨i, rfl, rfl, e, ?_, h2⟩
    rw [hq, Nat.zero_add]; exact h1
theorem modify_map {α β : Type} (g : α → β) (f : α → α) (i : Nat) : ∀ (l : List α), (∀ e, l[i]? = some e → g (f e) = g e) → (l.modify i f).map g = l.map g := by
  intro l h
  apply List.ext_getElem?
  intro j
  simp only [List.getElem?_map, List.getElem?_modify]
  by_cases hj : i = j
  · subst hj
    cases he : l[i]? with
    | none => simp
    | some e => simp [h e he]
  · simp [hj]
theorem MapIs.put {es : Ent} {ck : Nat} {mg : Int → Option (List UInt8)} (h : MapIs es ck mg) {no : Int} (hno : 0 ≤ no ∧ no ≤ 95) {b : List UInt8} (hb : b.length = 256) :
    MapIs (mput es ck no (.string (strB b))).1 (mput es ck no (.string (strB b))).2 (setM mg no b) := by
  have hv : ∀ k, mget (mput es ck no (.string (strB b))).1 k = (setM mg no b k).map fun b => .string (strB b) := by
    intro k
    rw [mget_mput]
    unfold setM
    by_cases e : k = no
    · simp [e]
    · rw [if_neg e, if_neg e, h.val k]
  have hs : ∀ k c, setM mg no b k = some c → c.length = 256 := by
    intro k c hc
    unfold setM at hc
    split at hc
    · cases hc; exact hb
    · exact h.size k c hc
  have hr : ∀ k, setM mg no b k ≠ none → 0 ≤ k ∧ k ≤ 95 := by
    intro k hk
    unfold setM at hk
    split at hk
    · rename_i e; rw [e]; exact hno
    · exact h.rng k hk
  rcases mput_cases es ck no (.string (strB b)) with ⟨hn, he⟩ | ⟨i, h1, h2, e, he, hk⟩
  · rw [he] at hv ⊢
    refine ⟨?_, ?_, ?_, hv, hs, hr⟩
    · rw [List.map_append, List.nodup_append]
      refine ⟨h.keys, by simp, fun a ha c hc hac => ?_⟩
      obtain ⟨x, hx, rfl⟩ := List.mem_map.1 ha
      simp at hc
      exact hn x hx (by rw [hac, hc])
    · rw [List.map_append, List.nodup_append]
      refine ⟨h.born, by simp, fun a ha c hc hac => ?_⟩
      obtain ⟨x, hx, rfl⟩ := List.mem_map.1 ha
      simp at hc
      have := h.old x hx
      omega
    · intro x hx
      rcases List.mem_append.1 hx with hx | hx
      · have := h.old x hx; omega
      · rw [List.mem_singleton.1 hx]; simp
  · rw [h1] at hv ⊢
    rw [h2]
    refine ⟨?_, ?_, ?_, hv, hs, hr⟩
    · rw [modify_map (·.1) _ i es fun x hx => by rw [he] at hx; cases hx; exact hk.symm]; exact h.keys
    · rw [modify_map (·.2.2) (fun e => (no, Value.string (strB b), e.2.2)) i es fun x hx => rfl]; exact h.born
    · intro x hx
      have : x.2.2 ∈ (es.modify i (fun e => (no, Value.string (strB b), e.2.2))).map (·.2.2) := List.mem_map_of_mem hx
      rw [modify_map (·.2.2) (fun e => (no, Value.string (strB b), e.2.2)) i es fun x hx => rfl] at this
      obtain ⟨y, hy, e⟩ := List.mem_map.1 this
      rw [← e]; exact h.old y hy
theorem MapIs.empty : MapIs [] 0 (fun _ => none) := ⟨by simp, by simp, by simp, fun _ => rfl, by simp, by simp⟩
end Sht
end Go.Proofs.Ytoegcjgdaikfiaa
