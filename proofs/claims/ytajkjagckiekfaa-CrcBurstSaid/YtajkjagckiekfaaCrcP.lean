/-
  The plain laws of the sums of 32 bits: a text in two, three texts of one length, a burst of up to four bytes. No program in sight.
-/
import Derived.Test.YtajkjagckiekfaaCrc0
namespace Go.Proofs.Ytajkjagckiekfaa
open Go Go.SL

theorem not_not32 (x : BitVec 32) : ~~~ ~~~ x = x := by simp
theorem moreS_append (s : BitVec 32) (a b : List UInt8) : moreS (moreS s a) b = moreS s (a ++ b) := by
  simp [moreS, List.foldl_append]
theorem moreS_nil (s : BitVec 32) : moreS s [] = s := by simp [moreS]

/-! ### Linear -/
theorem ofNat_xor (c d : UInt8) : BitVec.ofNat 32 (c ^^^ d).toNat = BitVec.ofNat 32 c.toNat ^^^ BitVec.ofNat 32 d.toNat := by
  apply BitVec.eq_of_toNat_eq
  have h1 := c.toNat_lt
  have h2 := d.toNat_lt
  have h3 := (c ^^^ d).toNat_lt
  simp only [BitVec.toNat_ofNat, BitVec.toNat_xor, UInt8.toNat_xor] at *
  rw [Nat.mod_eq_of_lt (by omega), Nat.mod_eq_of_lt (a := c.toNat) (by omega), Nat.mod_eq_of_lt (a := d.toNat) (by omega)]
theorem and_one_cases (y : BitVec 32) : y &&& 1#32 = 1#32 ∨ y &&& 1#32 = 0#32 := by
  by_cases h : y &&& 1#32 = 1#32
  · exact .inl h
  · refine .inr (BitVec.eq_of_toNat_eq ?_)
    have : ¬ (y &&& 1#32).toNat = 1 := fun e => h (BitVec.eq_of_toNat_eq (by simpa using e))
    simp [BitVec.toNat_and, Nat.and_one_is_mod] at this ⊢
    omega
theorem bitS_xor (x y : BitVec 32) : bitS (x ^^^ y) = bitS x ^^^ bitS y := by
  have h : (x ^^^ y) &&& 1#32 = (x &&& 1#32) ^^^ (y &&& 1#32) := by
    apply BitVec.eq_of_getLsbD_eq; intro i hi; simp [Bool.and_xor_distrib_right]
  have hs : (x ^^^ y) >>> 1 = (x >>> 1) ^^^ (y >>> 1) := by
    apply BitVec.eq_of_getLsbD_eq; intro i hi; simp
  have e : ∀ p q c d : BitVec 32, (p ^^^ q) ^^^ (c ^^^ d) = (p ^^^ c) ^^^ (q ^^^ d) := by
    intro p q c d
    apply BitVec.eq_of_getLsbD_eq
    intro i hi
    simp only [BitVec.getLsbD_xor]
    cases p.getLsbD i <;> cases q.getLsbD i <;> cases c.getLsbD i <;> cases d.getLsbD i <;> rfl
  unfold bitS
  rw [h, hs, ← e]
  congr 1
  rcases and_one_cases x with hx | hx <;> rcases and_one_cases y with hy | hy <;> rw [hx, hy] <;> decide
theorem bitsS_xor (k : Nat) (x y : BitVec 32) : bitsS k (x ^^^ y) = bitsS k x ^^^ bitsS k y := by
  induction k generalizing x y with
  | zero => rfl
  | succ k ih => simp only [bitsS, bitS_xor, ih]
theorem xor4 (p q c d : BitVec 32) : (p ^^^ q) ^^^ (c ^^^ d) = (p ^^^ c) ^^^ (q ^^^ d) := by
  apply BitVec.eq_of_getLsbD_eq
  intro i hi
  simp only [BitVec.getLsbD_xor]
  cases p.getLsbD i <;> cases q.getLsbD i <;> cases c.getLsbD i <;> cases d.getLsbD i <;> rfl
theorem byteS_xor (x y : BitVec 32) (c d : UInt8) : byteS (x ^^^ y) (c ^^^ d) = byteS x c ^^^ byteS y d := by
  unfold byteS
  rw [ofNat_xor, xor4, bitsS_xor]
theorem fold_xor : ∀ (a b : List UInt8) (x y : BitVec 32), a.length = b.length → (List.zipWith (· ^^^ ·) a b).foldl byteS (x ^^^ y) = a.foldl byteS x ^^^ b.foldl byteS y
  | [], [], _, _, _ => rfl
  | c :: a, d :: b, x, y, h => by
    simp only [List.zipWith_cons_cons, List.foldl_cons, byteS_xor]
    exact fold_xor a b _ _ (by simpa using h)
/-- three texts of one length -/
theorem three (a b c : List UInt8) (h1 : a.length = b.length) (h2 : b.length = c.length) :
    moreS 0#32 (List.zipWith (· ^^^ ·) (List.zipWith (· ^^^ ·) a b) c) = moreS 0#32 a ^^^ moreS 0#32 b ^^^ moreS 0#32 c := by
  have h := fold_xor (List.zipWith (· ^^^ ·) a b) c ((~~~ 0#32) ^^^ (~~~ 0#32)) (~~~ 0#32) (by simp [h1, h2])
  rw [fold_xor a b _ _ h1] at h
  have e0 : ((~~~ 0#32) ^^^ (~~~ 0#32)) ^^^ (~~~ 0#32) = ~~~ 0#32 := by decide
  rw [e0] at h
  unfold moreS
  rw [h]
  apply BitVec.eq_of_getLsbD_eq
  intro i hi
  simp only [BitVec.getLsbD_not, BitVec.getLsbD_xor, hi, decide_true, Bool.true_and]
  cases (a.foldl byteS (~~~ 0#32)).getLsbD i <;> cases (b.foldl byteS (~~~ 0#32)).getLsbD i <;> cases (c.foldl byteS (~~~ 0#32)).getLsbD i <;> rfl

/-! ### A burst -/
theorem bit_back {y : BitVec 32} (h : (bitS y).toNat < 2147483648) : y.toNat = 2 * (bitS y).toNat := by
  rcases and_one_cases y with h1 | h1
  · exfalso
    rw [bit_odd h1] at h
    have h2 : ((y >>> 1) ^^^ 3988292384#32).getLsbD 31 = true := by
      simp
    have : ((y >>> 1) ^^^ 3988292384#32).toNat.testBit 31 = true := h2
    have h4 := Nat.testBit_lt_two_pow (x := ((y >>> 1) ^^^ 3988292384#32).toNat) (i := 31) (by omega)
    rw [this] at h4
    cases h4
  · have hn : ¬ y &&& 1#32 = 1#32 := by rw [h1]; decide
    rw [bit_even hn]
    have h2 := congrArg BitVec.toNat h1
    simp [BitVec.toNat_and, Nat.and_one_is_mod] at h2
    simp [BitVec.toNat_ushiftRight, Nat.shiftRight_eq_div_pow]
    omega
theorem bits_back : ∀ (k : Nat) (y : BitVec 32), (bitsS k y).toNat * 2 ^ k < 4294967296 → y.toNat = (bitsS k y).toNat * 2 ^ k
  | 0, y, _ => by simp [bitsS]
  | k + 1, y, h => by
    simp only [bitsS] at h ⊢
    have hp : (2 : Nat) ^ (k + 1) = 2 ^ k * 2 := Nat.pow_succ 2 k
    rw [hp, ← Nat.mul_assoc] at h ⊢
    have h1 := bits_back k (bitS y) (by omega)
    rw [← h1] at h ⊢
    have := bit_back (y := y) (by omega)
    omega
/-- bytes as a number, the first one the least -/
def leN : List UInt8 → Nat
  | [] => 0
  | c :: l => c.toNat + 256 * leN l
theorem leN_lt (l : List UInt8) : leN l < 256 ^ l.length := by
  induction l with
  | nil => simp [leN]
  | cons c l ih =>
    have := c.toNat_lt
    simp only [leN, List.length_cons, Nat.pow_succ]
    omega
theorem xor_low (a c : Nat) (hc : c < 2 ^ 8) : (a * 2 ^ 8) ^^^ c = c + 256 * a := by
  apply Nat.eq_of_testBit_eq
  intro i
  rw [show c + 256 * a = 2 ^ 8 * a + c by omega, Nat.testBit_xor, Nat.testBit_two_pow_mul_add a hc, Nat.mul_comm, Nat.testBit_two_pow_mul]
  by_cases h : i < 8
  · have : ¬ 8 ≤ i := by omega
    simp [h, this]
  · have h' : 8 ≤ i := by omega
    have := Nat.testBit_lt_two_pow (x := c) (i := i) (Nat.lt_of_lt_of_le hc (Nat.pow_le_pow_right (by decide) h'))
    simp [h, h', this]
theorem burst_back : ∀ (l : List UInt8) (x : BitVec 32), l.length ≤ 4 → l.foldl byteS x = 0#32 → x.toNat = leN l
  | [], x, _, h => by simp only [List.foldl_nil] at h; subst h; rfl
  | c :: l, x, hl, h => by
    simp only [List.length_cons] at hl
    have h1 := burst_back l (byteS x c) (by omega) (by simpa using h)
    have h2 := leN_lt l
    have h3 : 256 ^ l.length ≤ 256 ^ 3 := Nat.pow_le_pow_right (by decide) (by omega)
    have h4 := bits_back 8 (x ^^^ BitVec.ofNat 32 c.toNat) (by
      show (byteS x c).toNat * 2 ^ 8 < _
      rw [h1]; omega)
    change _ = (byteS x c).toNat * 2 ^ 8 at h4
    rw [h1] at h4
    have hc := c.toNat_lt
    have h5 : x = (x ^^^ BitVec.ofNat 32 c.toNat) ^^^ BitVec.ofNat 32 c.toNat := by simp [BitVec.xor_assoc]
    have h6 : x.toNat = (leN l * 2 ^ 8) ^^^ c.toNat := by
      rw [h5, BitVec.toNat_xor, h4, BitVec.toNat_ofNat, Nat.mod_eq_of_lt (by omega)]
    rw [h6]
    simp only [leN]
    exact xor_low _ _ hc
theorem byte_zero {x : BitVec 32} (h : byteS x 0 = 0#32) : x = 0#32 := by
  have := bits_back 8 x (by
    have h' : bitsS 8 x = 0#32 := by simpa [byteS] using h
    rw [h']; decide)
  have h' : bitsS 8 x = 0#32 := by simpa [byteS] using h
  rw [h'] at this
  exact BitVec.eq_of_toNat_eq (by simpa using this)
theorem fold_zero (m : Nat) : ∀ x : BitVec 32, (List.replicate m (0 : UInt8)).foldl byteS x = 0#32 → x = 0#32 := by
  induction m with
  | zero => intro x h; exact h
  | succ m ih =>
    intro x h
    simp only [List.replicate_succ, List.foldl_cons] at h
    exact byte_zero (ih _ h)
theorem leN_pos {l : List UInt8} (h : leN l = 0) : ∀ c ∈ l, c = 0 := by
  induction l with
  | nil => simp
  | cons c l ih =>
    simp only [leN] at h
    intro d hd
    rcases List.mem_cons.1 hd with rfl | hd
    · exact UInt8.toNat_inj.1 (by show d.toNat = 0; omega)
    · exact ih (by omega) d hd
/-- up to four bytes behind one another that were changed change the sum -/
theorem burst (p b q x : List UInt8) (hl : b.length = x.length) (h4 : x.length ≤ 4) (hx : ∃ c ∈ x, c ≠ 0) :
    moreS 0#32 (p ++ b ++ q) ≠ moreS 0#32 (p ++ List.zipWith (· ^^^ ·) b x ++ q) := by
  intro h
  unfold moreS at h
  have h1 : (p ++ b ++ q).foldl byteS (~~~ 0#32) = (p ++ List.zipWith (· ^^^ ·) b x ++ q).foldl byteS (~~~ 0#32) := by
    have := congrArg (fun z => ~~~ z) h
    simpa using this
  simp only [List.foldl_append] at h1
  generalize p.foldl byteS (~~~ 0#32) = s at h1
  have h2 := fold_xor b x s 0#32 hl
  simp only [BitVec.xor_zero] at h2
  rw [h2] at h1
  generalize hd : x.foldl byteS 0#32 = d at h1
  generalize b.foldl byteS s = t at h1
  have h3 := fold_xor q (List.replicate q.length 0) t d (by simp)
  have e : List.zipWith (· ^^^ ·) q (List.replicate q.length (0 : UInt8)) = q := by
    apply List.ext_getElem?
    intro i
    simp only [List.getElem?_zipWith, List.getElem?_replicate]
    by_cases hi : i < q.length
    · simp [hi]
    · simp [hi]
  rw [e] at h3
  rw [h3] at h1
  have h5 : (List.replicate q.length (0 : UInt8)).foldl byteS d = 0#32 := by
    have h6 := congrArg (fun z => q.foldl byteS t ^^^ z) h1
    simp only [← BitVec.xor_assoc, BitVec.xor_self, BitVec.zero_xor] at h6
    exact h6.symm
  have h7 := fold_zero _ _ h5
  subst h7
  have h8 := burst_back x 0#32 h4 hd
  obtain ⟨c, hc, hne⟩ := hx
  exact hne (leN_pos h8.symm c hc)
end Go.Proofs.Ytajkjagckiekfaa
