/-
  A sum of bytes as a native of the evaluator.
-/
import Derived.Test.YtokggoikffcijaaGreatDoorCrc0
import Derived.Test.YtokggoikffcijaaGreatDoorGn0
namespace Go.Proofs.YtokggoikffcijaaGreatDoor
open Go Go.SL Go.RowKit Go.Ev
noncomputable section
def bitN (x : Nat) : Nat := Nat.xor (Nat.div x 2) (Nat.mul (Nat.mod x 2) 3988292384)
def byteN (x c : Nat) : Nat := bitN (bitN (bitN (bitN (bitN (bitN (bitN (bitN (Nat.xor x c))))))))
def forceN (x : Nat) (f : Nat → Nat) : Nat := Nat.rec (motive := fun _ => Nat) (f 0) (fun k _ => f (Nat.succ k)) x
def crcB (n y : Nat) : Nat → Nat := Nat.rec (motive := fun _ => Nat → Nat) (fun x => x) (fun k ih x => forceN (byteN x (Nat.mod (Nat.div y (Nat.pow 256 k)) 256)) ih) n
def crcZ (n c : Nat) : Nat → Nat := Nat.rec (motive := fun _ => Nat → Nat) (fun x => x) (fun _ ih x => forceN (byteN x c) ih) n
def byteOf (a : V) : Nat := elI a 0 fun _ z => Int.rec (fun n => n) (fun _ => 0) z
def crcT (u : T V) : Nat → Nat := T.rec (motive := fun _ => Nat → Nat) (fun n a x => crcZ n (byteOf a) x) (fun n y x => crcB n y x) (fun _ _ _ l r x => forceN (l x) r) u
theorem forceN_eq (x : Nat) (f : Nat → Nat) : forceN x f = f x := by cases x <;> rfl
theorem bitN_eq (x : BitVec 32) : bitN x.toNat = (bitS x).toNat := by
  by_cases h : x &&& 1#32 = 1#32
  · rw [bit_odd h]
    have h2 := congrArg BitVec.toNat h
    simp [BitVec.toNat_and, Nat.and_one_is_mod] at h2
    show (x.toNat / 2) ^^^ (x.toNat % 2 * 3988292384) = _
    rw [h2]
    simp [BitVec.toNat_xor, BitVec.toNat_ushiftRight, Nat.shiftRight_eq_div_pow]
  · rw [bit_even h]
    have h2 : x.toNat % 2 = 0 := by
      rcases Nat.mod_two_eq_zero_or_one x.toNat with h3 | h3
      · exact h3
      · exact absurd (by apply BitVec.eq_of_toNat_eq; simp [BitVec.toNat_and, Nat.and_one_is_mod, h3]) h
    show (x.toNat / 2) ^^^ (x.toNat % 2 * 3988292384) = _
    rw [h2]
    simp [BitVec.toNat_ushiftRight, Nat.shiftRight_eq_div_pow]
theorem byteN_eq (x : BitVec 32) (c : UInt8) : byteN x.toNat c.toNat = (byteS x c).toNat := by
  have hc : (BitVec.ofNat 32 c.toNat).toNat = c.toNat := by
    simp [BitVec.toNat_ofNat]
  have e : Nat.xor x.toNat c.toNat = (x ^^^ BitVec.ofNat 32 c.toNat).toNat := by
    rw [BitVec.toNat_xor, hc]; rfl
  unfold byteN byteS
  rw [e]
  simp only [bitN_eq, bitsS]
theorem crcZ_eq (c : UInt8) : ∀ (n : Nat) (x : BitVec 32), crcZ n c.toNat x.toNat = ((List.replicate n c).foldl byteS x).toNat
  | 0, x => rfl
  | n + 1, x => by
    show forceN (byteN x.toNat c.toNat) (crcZ n c.toNat) = _
    rw [forceN_eq, byteN_eq, crcZ_eq c n]
    rfl
theorem crcB_eq (y : Nat) : ∀ (n : Nat) (x : BitVec 32), crcB n y x.toNat = (((bytesOf n y).map fun c => UInt8.ofNat c).foldl byteS x).toNat
  | 0, x => rfl
  | n + 1, x => by
    show forceN (byteN x.toNat (y / 256 ^ n % 256)) (crcB n y) = _
    have hc : (UInt8.ofNat (y / 256 ^ n % 256)).toNat = y / 256 ^ n % 256 := by simp [UInt8.toNat_ofNat]
    rw [forceN_eq, ← hc, byteN_eq, crcB_eq y n]
    rfl
theorem crcT_ok {φ : Phi} : ∀ {u : T V} {l : List Value}, TR φ u l → byT u = true → ∃ b : List UInt8, l = bytesV b ∧ ∀ x : BitVec 32, crcT u x.toNat = (b.foldl byteS x).toNat
  | .z n a, l, ht, hb => by
    unfold TR at ht
    obtain ⟨c, hc⟩ := isByte_ok (x := a) hb
    have hbo : byteOf a = c.toNat := by
      cases a <;> try exact (Bool.false_ne_true hb).elim
      rename_i k z
      have := hc φ (.int k z) (VR.i' _ _ _)
      injection this with h1 h2
      subst h2
      rfl
    refine ⟨List.replicate n c, ?_, fun x => ?_⟩
    · have : bytesV (List.replicate n c) = List.replicate n (.int .u8 (c.toNat : Int)) := by simp [bytesV, byteV]
      rw [this, List.eq_replicate_iff]
      exact ⟨ht.1, fun y hy => hc φ y (ht.2 y hy)⟩
    · show crcZ n (byteOf a) x.toNat = _
      rw [hbo, crcZ_eq]
  | .bs n y, l, ht, _ => by
    unfold TR at ht
    refine ⟨(bytesOf n y).map fun c => UInt8.ofNat c, ?_, fun x => crcB_eq y n x⟩
    rw [ht.1]
    simp only [bytesV, List.map_map]
    apply List.map_congr_left
    intro c hc
    have := bytesOf_lt hc
    simp only [Function.comp, cellB, byteV]
    congr 2
    simp [UInt8.toNat_ofNat]
    omega
  | .nd k a b, l, ht, hb => by
    unfold TR at ht
    obtain ⟨l1, l2, rfl, _, h1, h2⟩ := ht
    change Bool.and (byT a) (byT b) = true at hb
    simp only [Bool.and_eq_true] at hb
    obtain ⟨x1, rfl, e1⟩ := crcT_ok h1 hb.1
    obtain ⟨x2, rfl, e2⟩ := crcT_ok h2 hb.2
    refine ⟨x1 ++ x2, by simp, fun x => ?_⟩
    show forceN (crcT a x.toNat) (crcT b) = _
    rw [forceN_eq, e1, e2, List.foldl_append]
def moreN (_hd : Hd) (args : List V) (h : Hp) : Ox := match args with
  | [.i .u32 (.ofNat s), .sl a o n _] => match PT.get a h.mem with
    | some (.row t _ c) => ite' (Bool.and (Bool.and (Nat.blt 3 t) (Nat.blt s 4294967296)) (Bool.and (Bool.and (Nat.ble 1 n) (Nat.ble (Nat.add o n) (T.size c))) (Bool.and (Nat.ble n 281474976710656) (byT (T.sub c o n)))))
        (.val (.i .u32 (.ofNat (Nat.sub 4294967295 (crcT (T.sub c o n) (Nat.sub 4294967295 s))))) h) (.no 790)
    | _ => .no 791
  | _ => .no 792
theorem not32 (x : BitVec 32) : 4294967295 - x.toNat = (~~~ x).toNat := by simp [BitVec.toNat_not]
theorem moreN_ok {W0 : World} (hd : Hd) (args : List V) (h : Hp) (φ : Phi) (w : World) (argsR : List Value) (hs : Sm W0 φ h w) (hl : LR φ args argsR) : CallOK Tryz.prog W0 φ h w 341 argsR.toArray (moreN hd args h) := by
  unfold moreN
  split
  · rename_i s a o n cap
    obtain ⟨x, y, rfl, hx, hy⟩ := hl.two
    obtain rfl := hx.i
    split
    · rename_i t sz c hga
      cases h1 : Bool.and (Bool.and (Nat.blt 3 t) (Nat.blt s 4294967296)) (Bool.and (Bool.and (Nat.ble 1 n) (Nat.ble (Nat.add o n) (T.size c))) (Bool.and (Nat.ble n 281474976710656) (byT (T.sub c o n)))) with
      | false => trivial
      | true =>
        simp only [Bool.and_eq_true] at h1
        obtain ⟨⟨k1, k2⟩, ⟨k3, k4⟩, k5, k6⟩ := h1
        have k1 : 3 < t := Nat.le_of_ble_eq_true k1
        have k2 : s < 4294967296 := Nat.le_of_ble_eq_true k2
        have k3 := Nat.le_of_ble_eq_true k3
        have k4 : o + n ≤ T.size c := Nat.le_of_ble_eq_true k4
        have k5 := Nat.le_of_ble_eq_true k5
        obtain ⟨A, ha, p, cc, rfl, g1, g2, g3⟩ := hy.sl
        have hf := hs.flat hga ha (Nat.not_lt.2 k1)
        have g2 : p = ⟨A.b, o, none⟩ := by
          rcases g2 with g2 | g2
          · rw [g2, hf, Nat.zero_add]
          · omega
        subst g2
        obtain ⟨pre, xs, p1, p2, p3, p4, p5, p6⟩ := hs.row hga ha
        obtain rfl : pre = [] := List.eq_nil_of_length_eq_zero (by rw [p1]; exact hf)
        have t1 := TR.sub p3 (lo := o) (k := n) (by omega)
        obtain ⟨b, hb, hcrc⟩ := crcT_ok t1 k6
        have hbl : b.length = n := by
          have := congrArg List.length hb
          simp at this
          omega
        have hm0 := hs.mem1 hga ha (so := .row xs t A.k) (by simpa using p2)
        have key := more_spec W0 ([(A.b, .row xs t A.k)] :: [others W0 w [A.b]]) (BitVec.ofNat 32 s) (some ⟨A.b, o, none⟩) cc b (l := n) hbl.symm (by omega) (Rd.row .here (fun j hj => by
          rw [← hb, List.getElem?_take, if_pos (by simp at hj; omega), List.getElem?_drop]))
        have es : (BitVec.ofNat 32 s).toNat = s := by simp [BitVec.toNat_ofNat]; omega
        rw [es] at key
        have er : Nat.sub 4294967295 (crcT (T.sub c o n) (Nat.sub 4294967295 s)) = (moreS (BitVec.ofNat 32 s) b).toNat := by
          have e1 : Nat.sub 4294967295 s = (~~~ (BitVec.ofNat 32 s)).toNat := by rw [← not32, es]; rfl
          rw [e1, hcrc]
          unfold moreS
          rw [← not32]; rfl
        show CallOK Tryz.prog W0 φ h w _ _ (.val (.i .u32 (.ofNat (Nat.sub 4294967295 (crcT (T.sub c o n) (Nat.sub 4294967295 s))))) h)
        rw [er]
        refine (key w hm0).mono ?_
        rintro e w' ⟨L', hm', rfl, rfl⟩
        have g := hm'.get (b := A.b) .here
        obtain ⟨hs', _⟩ := hs.recast (w' := w') hm'.below h.mem (fun _ _ => rfl) fun a' o' B' ha' hg => by
          refine ⟨⟨_, hg⟩, ?_⟩
          by_cases e1 : a' = a
          · subst e1
            rw [ha] at ha'; cases ha'
            rw [hga] at hg; cases hg
            exact ⟨⟨p6, .inr hf⟩, [], _, hf.symm, g.2, p3, p4⟩
          · have q1 := hs.apart a' a o' _ B' A hg hga ha' ha e1
            obtain ⟨_, q3⟩ := hs.own a' o' B' hg ha'
            exact q3.mono (Ext.refl φ) (same_of hs.below hm' (S := [A.b]) (fun p hp => by simp [hp]) q3.lt (by simp [q1]))
        exact ⟨φ, _, rfl, St.refl _ _, hs', VR.i' _ _ _⟩
    · trivial
  · trivial
end
end Go.Proofs.YtokggoikffcijaaGreatDoor
