/-
  A crash, plainly: what each sector holds behind it.
-/
import Derived.Test.YtjfjmhmfhkdcbabDv5
namespace Go.Proofs.Ytjfjmhmfhkdcbab
open Go Go.SL Go.RowKit

theorem crashFrom_both (ks : List Bool) : ∀ (xs : List (List UInt8)) (j : Nat), crashFrom ks (xs.map both) j = xs
  | [], _ => rfl
  | x :: xs, j => by
    simp only [List.map_cons, crashFrom]
    rw [show (both x).loose = false from rfl, if_neg (by simp), crashFrom_both ks xs]
    rfl
theorem crash_again (d : Dv) (ks ks2 : List Bool) : (d.crash ks).crash ks2 = d.crash ks := by
  unfold Dv.crash
  simp only [crashFrom_both, List.length_map, crashFrom_length]
theorem looses_both : ∀ (xs : List (List UInt8)) (j : Nat), looses (xs.map both) j = []
  | [], _ => rfl
  | x :: xs, j => by
    simp only [List.map_cons, looses, looses_both xs]
    rfl
theorem crash_looses (d : Dv) (ks : List Bool) : looses (d.crash ks).l 0 = [] := looses_both _ _
theorem crash_len (d : Dv) (ks : List Bool) : (d.crash ks).l.length = d.l.length := by simp [Dv.crash, crashFrom_length]
theorem crashFrom_get (ks : List Bool) : ∀ (l : List Sec) (k j : Nat), (crashFrom ks l k)[j]? = l[j]?.map (fun s => kept ks s (k + loosN (l.take j)))
  | [], k, j => by simp [crashFrom]
  | s :: l, k, 0 => by simp [crashFrom, loosN]
  | s :: l, k, j + 1 => by
    simp only [crashFrom, List.getElem?_cons_succ, crashFrom_get ks l, List.take_succ_cons, loosN, List.countP_cons]
    cases l[j]? with
    | none => rfl
    | some x =>
      simp only [Option.map_some]
      congr 2
      split <;> omega
theorem crash_now (d : Dv) (ks : List Bool) {j : Nat} (hj : j < d.l.length) (h : j < (d.crash ks).l.length) : (d.crash ks).l[j].now = kept ks d.l[j] (loosN (d.l.take j)) := by
  have h1 := crashFrom_get ks d.l 0 j
  rw [List.getElem?_eq_getElem hj, Option.map_some, Nat.zero_add] at h1
  have h2 : (d.crash ks).l[j]? = some (both (kept ks d.l[j] (loosN (d.l.take j)))) := by
    show ((crashFrom ks d.l 0).map both)[j]? = _
    rw [List.getElem?_map, h1]
    rfl
  rw [List.getElem?_eq_getElem h] at h2
  rw [Option.some.inj h2]
  rfl
theorem looses_length : ∀ (l : List Sec) (k : Nat), (looses l k).length = loosN l
  | [], _ => rfl
  | s :: l, k => by
    simp only [looses, List.length_append, looses_length l, loosN, List.countP_cons]
    split <;> simp <;> omega
end Go.Proofs.Ytjfjmhmfhkdcbab
