/-
  The library's slices.Sorted(maps.Keys(m)), laid from the shelf, in the form of these walks.
-/
import Derived.Test.YtokggoikffcijaaGreatDoorShelf
import Derived.Test.YtokggoikffcijaaGreatDoorK2
import Derived.Test.YtokggoikffcijaaGreatDoorK1
import Derived.Test.YtokggoikffcijaaGreatDoorTy
namespace Go.Proofs.YtokggoikffcijaaGreatDoor
namespace Sht
open Go Go.SL Go.RowKit Go.Maps Go.Sort Go.Shelf

def sortZ (l : List Int) : List Int := l.mergeSort (fun x y => decide (x ≤ y))
def entE (es : Ent) : Array MapEntry := (es.map (entV .i64)).toArray
def plP (P : Program) (v : Value) : Option (DataW Unit × List MemPlace) := plainElem P 9 v
def datP (P : Program) (es : Ent) : DataW Unit := .map (((entE es).toList.map (WideElems.rg P 3 (plP P))).foldr DataW.insert [])
theorem rd_entE {e : Int × Value × Nat} (hw : (Lit.int .i64 e.1).wf = true) {s : ByteArray} (hv : e.2.1 = .string s) (hs : s.size ≤ maxLen) : WideElems.rd Tryz.prog 3 (plP Tryz.prog) (entV .i64 e) = some (.int .i64 e.1, .lit (.string s.data.toList)) := by
  have hk : keyOf Tryz.prog 3 (.int .i64 e.1) = some (.int .i64 e.1) := by
    simp [keyOf, Tryz.underlying3, mapKey, hw]
  have hp : (plP Tryz.prog) (.string s) = some (.lit (.string s.data.toList), []) := plainElem_string Tryz.underlying9 hs
  simp [WideElems.rd, entV, hk, hv, hp]
theorem owns_entE {w : World} {b ck : Nat} {es : Ent} (hb : w.heap[b]? = some (.map (entE es) ck)) (hk : (es.map (·.1)).Nodup) (hbn : (es.map (·.2.2)).Nodup) (hold : ∀ e ∈ es, e.2.2 < ck) (hval : ∀ e ∈ es, (Lit.int .i64 e.1).wf = true ∧ ∃ s, e.2.1 = .string s ∧ s.size ≤ maxLen) (hn : es.length ≤ maxLen) :
    w.ownsMap Tryz.prog 3 (plP Tryz.prog) b es.length (datP Tryz.prog es) := by
  refine ⟨entE es, ck, hb, ⟨by simpa [entE] using hn, ⟨?_, ?_, ?_⟩, ?_⟩, by simp [entE], rfl⟩
  · intro x hx
    simp only [entE, List.mem_map] at hx
    obtain ⟨e, he, rfl⟩ := hx
    exact hold e he
  · simpa [entE, Function.comp_def, entV] using hbn
  · have : (es.map fun e => Value.int .i64 e.1).Nodup := by
      rw [show (es.map fun e => Value.int .i64 e.1) = (es.map (·.1)).map (Value.int .i64) by simp [Function.comp_def]]
      rw [List.Nodup, List.pairwise_map]
      exact hk.imp fun h e => h (by cases e; rfl)
    simpa [entE, Function.comp_def, entV] using this
  · intro x hx
    simp only [entE, List.mem_map] at hx
    obtain ⟨e, he, rfl⟩ := hx
    obtain ⟨hw, s, hs, hl⟩ := hval e he
    exact ⟨_, rd_entE hw hs hl⟩
theorem keys_entE {es : Ent} (hval : ∀ e ∈ es, (Lit.int .i64 e.1).wf = true ∧ ∃ s, e.2.1 = .string s ∧ s.size ≤ maxLen) : (intKeys (datP Tryz.prog es)).Perm (es.map (·.1)) := by
  unfold datP intKeys
  refine ((Go.WideShapes.sorted_perm _).map _).trans ?_
  rw [show ((entE es).toList.map (WideElems.rg Tryz.prog 3 (plP Tryz.prog))).map (fun p => Go.intOf p.1) = es.map (·.1) from ?_]
  rw [List.map_map]
  simp only [entE, List.map_map]
  refine List.map_congr_left fun e he => ?_
  obtain ⟨hw, s, hs, hl⟩ := hval e he
  simp only [Function.comp, WideElems.rg, rd_entE hw hs hl]
  rfl
theorem size_entE (es : Ent) : Maps.size (datP Tryz.prog es) = es.length := by
  unfold datP
  rw [Maps.size_eq, (Go.WideShapes.sorted_perm _).length_eq]
  simp [entE]
theorem sortsA (m : Nat) : AnyZI.SortsIn Tryz.prog Tryz.sortedA_ren Fence.wide m :=
  ⟨fun blk off cap ss W hH hblk hsz => callsIn_wide.2 (AnyM.slices_Sort_int Tryz.sortA blk off cap ss W hH hblk hsz),
   fun p cap W => callsIn_wide.2 (AnyM.slices_Sort_int_none Tryz.sortA p cap W)⟩
section ks
variable (W0 : World)
theorem keys_spec (L : List Seg) (bm : Nat) : FnS Tryz.prog W0 188 #[.map (some bm)] L (fun e L' => ∃ bp, L' = [(bp, .row [.map (some bm)] 269 1)] :: L ∧ e = .returned (.func (.func 276) #[] #[.pointer (some ⟨bp, 0, none⟩)])) := by
  intro w hm
  have cK : CallsIn Fence.wide 5 Tryz.prog 188 #[.map (some bm)] w fun e w' => e = .returned (.func (.func 276) #[] #[.pointer (some ⟨w.heap.size, 0, none⟩)]) ∧ w' = w.alloc (.cells #[.map (some bm)] 269) := AnyZI.keys_in Tryz.keysA Fence.wide 5 trivial rfl (some bm) w
  refine (callsIn_wide.1 cK).mono ?_
  rintro e w' ⟨rfl, rfl⟩
  exact ⟨_, hm.alloc _ (o := .row [.map (some bm)] 269 1) (Holds.spare w [.map (some bm)] [] _), _, rfl, rfl⟩
theorem sorted_spec (L : List Seg) (bm bp ck : Nat) (es : Ent) (u v : Nat → SObj → List Seg) (ha : At L bm (mapO .i64 es ck) u) (hp : At L bp (.row [.map (some bm)] 269 1) v)
    (hk : (es.map (·.1)).Nodup) (hbn : (es.map (·.2.2)).Nodup) (hold : ∀ e ∈ es, e.2.2 < ck) (hval : ∀ e ∈ es, (Lit.int .i64 e.1).wf = true ∧ ∃ s, e.2.1 = .string s ∧ s.size ≤ maxLen) (hn : es.length ≤ 1000000) :
    FnS Tryz.prog W0 187 #[.func (.func 276) #[] #[.pointer (some ⟨bp, 0, none⟩)]] L (fun e L' => ∃ v so, OwnS v (sortZ (es.map (·.1))).length ((sortZ (es.map (·.1))).map (Value.int .i64)) 3 1 so ∧ L' = so :: L ∧ e = .returned v) := by
  intro w hm
  have hb : w.heap[bm]? = some (.map (entE es) ck) := (hm.get ha).2
  have hc : w.cell? ⟨bp, 0, none⟩ = some (.map (some bm)) := (hm.get hp).2.cell rfl
  have hown := owns_entE hb hk hbn hold hval (by unfold maxLen; omega)
  have hseq : SeqGives Fence.wide 2 Tryz.prog 276 #[.pointer (some ⟨bp, 0, none⟩)] encZ (fun ss => ss.Perm (intKeys (datP Tryz.prog es))) (Maps.size (datP Tryz.prog es)) w :=
    AnyZI.keys_gives (ρ := Tryz.keysA_ren) { Tryz.keysA with } Fence.wide _ trivial rfl (by omega) bp bm es.length (datP Tryz.prog es) w (hm.get hp).2.lt hc hown
  have cS := AnyZI.sorted_in Tryz.sortedA Fence.wide 5 trivial trivial trivial trivial rfl (by omega) (sortsA _) E64 276 #[.pointer (some ⟨bp, 0, none⟩)] trivial E276 _ _ (by rw [size_entE]; unfold maxLen; omega) (by rw [size_entE]; omega) w hseq
  change CallsIn _ _ Tryz.prog 187 _ _ _ at cS
  refine (callsIn_wide.1 cS).mono ?_
  rintro e w' ⟨v, ss, rfl, hS, hrow, _, hbel⟩
  have hsort : ss.mergeSort (fun x y => decide (x ≤ y)) = sortZ (es.map (·.1)) := mergeSort_of_perm_i (hS.trans (keys_entE hval))
  rw [hsort] at hrow
  have hlen : (sortZ (es.map (·.1))).length = ss.length := by rw [← hsort]; exact List.length_mergeSort _
  have hbl : Below W0.heap.size W0 w' := hm.below.trans (hbel.mono hm.below.size)
  have hold' : ∀ p ∈ L.flatten, W0.heap.size ≤ p.1 ∧ SL.Holds w' p.1 p.2 := fun p hpm => ⟨(hm.holds p hpm).1, (hm.holds p hpm).2.block (hbel.block _ (hm.holds p hpm).2.lt)⟩
  obtain ⟨hl, ⟨rfl, h0⟩ | ⟨g, cap, cur, rfl, hg, hcur, hc1, hc2, hsz, htk⟩⟩ := hrow
  · refine ⟨[] :: L, ⟨hbl, by simpa using hm.nodup, by simpa using hold'⟩, _, [], ?_, rfl, rfl⟩
    rw [List.eq_nil_of_length_eq_zero (show (sortZ (es.map (·.1))).length = 0 by omega)]
    exact OwnS.nil _ _
  · refine ⟨[(g, .row ((sortZ (es.map (·.1))).map (Value.int .i64)) 3 cap)] :: L, ⟨hbl, ?_, ?_⟩, _, [(g, .row ((sortZ (es.map (·.1))).map (Value.int .i64)) 3 cap)], ?_, rfl, rfl⟩
    · simp only [List.flatten_cons, List.singleton_append, List.map_cons, List.nodup_cons]
      refine ⟨fun hm2 => ?_, hm.nodup⟩
      obtain ⟨p, hp2, e⟩ := List.mem_map.1 hm2
      have := (hm.holds p hp2).2.lt
      omega
    · intro p hp2
      simp only [List.flatten_cons, List.singleton_append, List.mem_cons] at hp2
      rcases hp2 with rfl | hp2
      · refine ⟨Nat.le_trans hm.below.size hg, cur.toList.drop ss.length, (0, 0), ?_, ?_, .inl rfl⟩
        · rw [hcur]
          have : (sortZ (es.map (·.1))).map (Value.int .i64) ++ cur.toList.drop ss.length = cur.toList := by
            rw [← List.take_append_drop ss.length cur.toList]
            congr 1
            · rw [← htk, Nat.mul_one]
            · simp
          rw [this, Array.toArray_toList]
          rfl
        · have : (sortZ (es.map (·.1))).map (Value.int .i64) ++ cur.toList.drop ss.length = cur.toList := by
            rw [← List.take_append_drop ss.length cur.toList]
            congr 1
            · rw [← htk, Nat.mul_one]
            · simp
          rw [this]
          simp [hsz]
      · exact hold' p hp2
    · rw [hlen]
      exact OwnS.mk (by simp [hlen]) (by omega) hc1
end ks
end Sht
end Go.Proofs.YtokggoikffcijaaGreatDoor
