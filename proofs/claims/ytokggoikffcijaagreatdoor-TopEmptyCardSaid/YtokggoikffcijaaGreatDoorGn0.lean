/-
  The device as the evaluator has it: its sectors read, gone through.
-/
import Derived.Test.YtokggoikffcijaaGreatDoorGv0
import Derived.Test.YtokggoikffcijaaGreatDoorK4
namespace Go.Proofs.YtokggoikffcijaaGreatDoor
open Go Go.SL Go.RowKit Go.Ev
noncomputable section
section
variable {W0 w w' : World} {φ : Phi} {h : Hp}
/-! ### Bytes -/
def isByte (x : V) : Bool := elI x false fun k z => Bool.and (Nat.beq (kn k) 4) (Int.rec (fun n => Nat.ble n 255) (fun _ => false) z)
def byT (t : T V) : Bool := T.rec (motive := fun _ => Bool) (fun _ a => isByte a) (fun _ _ => true) (fun _ _ _ x y => Bool.and x y) t
theorem isByte_ok {x : V} (hx : isByte x = true) : ∃ c : UInt8, ∀ (φ : Phi) (v : Value), VR φ x v → v = .int .u8 (c.toNat : Int) := by
  cases x <;> try exact (Bool.false_ne_true hx).elim
  rename_i k z
  change Bool.and (Nat.beq (kn k) 4) (Int.rec (fun n => Nat.ble n 255) (fun _ => false) z) = true at hx
  simp only [Bool.and_eq_true] at hx
  obtain ⟨h1, h2⟩ := hx
  have hk : k = .u8 := kn_inj h1
  subst hk
  cases z with
  | negSucc n => exact (Bool.false_ne_true h2).elim
  | ofNat n =>
    have h2 : n ≤ 255 := Nat.le_of_ble_eq_true h2
    refine ⟨UInt8.ofNat n, fun φ v hv => ?_⟩
    rw [hv.i]
    congr 1
    have : (UInt8.ofNat n).toNat = n := by simp [UInt8.toNat_ofNat]; omega
    rw [this]; rfl
theorem byT_ok : ∀ {t : T V} {l : List Value}, TR φ t l → byT t = true → ∃ b : List UInt8, l = bytesV b
  | .z n a, l, ht, hb => by
    unfold TR at ht
    obtain ⟨c, hc⟩ := isByte_ok (x := a) hb
    refine ⟨List.replicate n c, ?_⟩
    have : bytesV (List.replicate n c) = List.replicate n (.int .u8 (c.toNat : Int)) := by simp [bytesV, byteV]
    rw [this, List.eq_replicate_iff]
    exact ⟨ht.1, fun y hy => hc φ y (ht.2 y hy)⟩
  | .bs n x, l, ht, _ => by
    unfold TR at ht
    refine ⟨(bytesOf n x).map fun c => UInt8.ofNat c, ?_⟩
    rw [ht.1]
    simp only [bytesV, List.map_map]
    apply List.map_congr_left
    intro c hc
    have := bytesOf_lt hc
    simp only [Function.comp, cellB, byteV]
    congr 2
    simp [UInt8.toNat_ofNat]
    omega
  | .nd k a b, l, ht, hb => by
    unfold TR at ht
    obtain ⟨l1, l2, rfl, _, h1, h2⟩ := ht
    change Bool.and (byT a) (byT b) = true at hb
    simp only [Bool.and_eq_true] at hb
    obtain ⟨x, rfl⟩ := byT_ok h1 hb.1
    obtain ⟨y, rfl⟩ := byT_ok h2 hb.2
    exact ⟨x ++ y, by simp⟩

/-! ### Sectors -/
def secB (c : T V) : Bool := Bool.and (byT (T.sub c 0 64)) (Bool.and (byT (T.sub c 64 64)) (elB (T.get c 128) false fun _ => true))
theorem secB_ok {c : T V} {l : List Value} (ht : TR φ c l) (hl : l.length = 129) (hb : secB c = true) : ∃ s : Sec, s.ok ∧ l = Sec.cs s ∧ TR φ (T.sub c 0 64) (bytesV s.now) ∧ TR φ (T.sub c 64 64) (bytesV s.lasts) := by
  unfold secB at hb
  simp only [Bool.and_eq_true] at hb
  obtain ⟨h1, h2, h3⟩ := hb
  have t1 := TR.sub ht (lo := 0) (k := 64) (by omega)
  have t2 := TR.sub ht (lo := 64) (k := 64) (by omega)
  obtain ⟨b1, e1⟩ := byT_ok t1 h1
  obtain ⟨b2, e2⟩ := byT_ok t2 h2
  obtain ⟨y, e3, hy⟩ := TR.get ht (i := 128) (by omega)
  have h3' : ∃ x, y = .bool x := by
    cases hv : T.get c 128 <;> rw [hv] at h3 hy <;> try exact (Bool.false_ne_true h3).elim
    exact ⟨_, hy.b⟩
  obtain ⟨x, rfl⟩ := h3'
  have n1 : b1.length = 64 := by
    have := congrArg List.length e1
    simp at this; omega
  have n2 : b2.length = 64 := by
    have := congrArg List.length e2
    simp at this; omega
  refine ⟨{ now := b1, lasts := b2, loose := x }, ⟨n1, n2⟩, ?_, e1 ▸ t1, e2 ▸ t2⟩
  unfold Sec.cs
  simp only
  rw [← e1, ← e2]
  have e4 : l.drop 128 = [.bool x] := by
    have h128 : 128 < l.length := by omega
    rw [List.getElem?_eq_getElem h128] at e3
    rw [List.drop_eq_getElem_cons h128, List.drop_eq_nil_of_le (by omega), Option.some.inj e3]
  rw [← e4, List.drop_zero]
  have e5 : l.drop 128 = (l.drop 64).drop 64 := by rw [List.drop_drop]
  rw [e5, List.take_append_drop, List.take_append_drop]
def oneS (g : T V → T V) (c : T V) : Option (T V) := ite' (secB c) (some (g c)) none
def joinO (x y : Option (T V)) : Option (T V) := Option.rec (motive := fun _ => Option (T V)) none (fun a => Option.rec (motive := fun _ => Option (T V)) none (fun b => some (T.cat a b)) y) x
def manyN (g : T V → T V) (c : T V) (n : Nat) : Option (T V) := Nat.rec (motive := fun _ => Option (T V)) (some (.bs 0 0)) (fun i ih => joinO ih (oneS g (T.sub c (Nat.mul 129 i) 129))) n
def manyS (g : T V → T V) (c : T V) : Option (T V) := manyN g c (Nat.div (T.size c) 129)
/-- all sectors gone through -/
def mapS (g : T V → T V) (c : T V) : Option (T V) :=
  T.rec (motive := fun _ => Option (T V)) (fun n a => manyS g (.z n a)) (fun n x => manyS g (.bs n x)) (fun h l r x y => ite' (Nat.beq (Nat.mod h 129) 0) (joinO x y) (manyS g (.nd h l r))) c
def GOK (g : T V → T V) (gv : Sec → List Value) : Prop := ∀ (φ : Phi) (c : T V) (s : Sec), TR φ (T.sub c 0 64) (bytesV s.now) → TR φ (T.sub c 64 64) (bytesV s.lasts) → TR φ (g c) (gv s)
theorem joinO_some {x y : Option (T V)} {c : T V} (hj : joinO x y = some c) : ∃ a b, x = some a ∧ y = some b ∧ c = T.cat a b := by
  cases x with
  | none => cases hj
  | some a =>
    cases y with
    | none => cases hj
    | some b => cases hj; exact ⟨a, b, rfl, rfl, rfl⟩
theorem TR.empty : TR φ (.bs 0 0) [] := by unfold TR; exact ⟨rfl, by decide⟩
theorem manyN_ok {g : T V → T V} {gv : Sec → List Value} (hg : GOK g gv) {c : T V} {l : List Value} (ht : TR φ c l) : ∀ (n : Nat) (c' : T V), 129 * n ≤ l.length → manyN g c n = some c' → ∃ ss : List Sec, (∀ s ∈ ss, s.ok) ∧ l.take (129 * n) = secsV ss ∧ TR φ c' (ss.flatMap gv)
  | 0, c', _, hm => by cases hm; exact ⟨[], by simp, by simp [secsV], TR.empty⟩
  | n + 1, c', hl, hm => by
    change joinO (manyN g c n) (oneS g (T.sub c (129 * n) 129)) = some c' at hm
    obtain ⟨a, b, h1, h2, rfl⟩ := joinO_some hm
    obtain ⟨ss, q1, q2, q3⟩ := manyN_ok hg ht n a (by omega) h1
    have t1 := TR.sub ht (lo := 129 * n) (k := 129) (by omega)
    unfold oneS at h2
    cases hb : secB (T.sub c (129 * n) 129) with
    | false => rw [hb] at h2; cases h2
    | true =>
      rw [hb] at h2
      cases h2
      obtain ⟨s, k1, k2, k3, k4⟩ := secB_ok t1 (by simp; omega) hb
      refine ⟨ss ++ [s], fun x hx => ?_, ?_, ?_⟩
      · rcases List.mem_append.1 hx with hx | hx
        · exact q1 x hx
        · rw [List.mem_singleton] at hx; exact hx ▸ k1
      · rw [show 129 * (n + 1) = 129 * n + 129 by omega, List.take_add, q2, k2]
        simp [secsV]
      · rw [List.flatMap_append]
        simpa using TR.cat q3 (hg φ _ s k3 k4)
theorem manyS_ok {g : T V → T V} {gv : Sec → List Value} (hg : GOK g gv) {c c' : T V} {l : List Value} (ht : TR φ c l) (hl : l.length % 129 = 0) (hm : manyS g c = some c') : ∃ ss : List Sec, (∀ s ∈ ss, s.ok) ∧ l = secsV ss ∧ TR φ c' (ss.flatMap gv) := by
  unfold manyS at hm
  rw [TR.size ht] at hm
  have e : 129 * (l.length / 129) = l.length := by omega
  obtain ⟨ss, q1, q2, q3⟩ := manyN_ok hg ht _ c' (by show 129 * (l.length / 129) ≤ _; omega) hm
  have q2 : l.take (129 * (l.length / 129)) = secsV ss := q2
  rw [e, List.take_length] at q2
  exact ⟨ss, q1, q2, q3⟩
theorem mapS_ok {g : T V → T V} {gv : Sec → List Value} (hg : GOK g gv) : ∀ {c c' : T V} {l : List Value}, TR φ c l → l.length % 129 = 0 → mapS g c = some c' → ∃ ss : List Sec, (∀ s ∈ ss, s.ok) ∧ l = secsV ss ∧ TR φ c' (ss.flatMap gv)
  | .z n a, c', l, ht, hl, hm => manyS_ok hg ht hl hm
  | .bs n x, c', l, ht, hl, hm => manyS_ok hg ht hl hm
  | .nd k a b, c', l, ht, hl, hm => by
    change ite' (Nat.beq (Nat.mod k 129) 0) (joinO (mapS g a) (mapS g b)) (manyS g (.nd k a b)) = some c' at hm
    cases hb : Nat.beq (Nat.mod k 129) 0 with
    | false => rw [hb] at hm; exact manyS_ok hg ht hl hm
    | true =>
      rw [hb] at hm
      have hb : k % 129 = 0 := Nat.eq_of_beq_eq_true hb
      obtain ⟨x, y, h1, h2, rfl⟩ := joinO_some hm
      unfold TR at ht
      obtain ⟨l1, l2, rfl, e1, t1, t2⟩ := ht
      rw [List.length_append] at hl
      obtain ⟨s1, p1, p2, p3⟩ := mapS_ok hg t1 (by omega) h1
      obtain ⟨s2, q1, q2, q3⟩ := mapS_ok hg t2 (by omega) h2
      refine ⟨s1 ++ s2, fun x hx => ?_, by rw [p2, q2]; simp [secsV], by rw [List.flatMap_append]; exact TR.cat p3 q3⟩
      rcases List.mem_append.1 hx with hx | hx
      · exact p1 x hx
      · exact q1 x hx

/-! ### What is as it was stays the same tree -/
def getU (x : Option (T V)) (c : T V) : T V := Option.rec (motive := fun _ => T V) c (fun a => a) x
def isSm (x : Option (T V)) : Bool := Option.rec (motive := fun _ => Bool) false (fun _ => true) x
def joinU (l r : T V) (x y : Option (Option (T V))) : Option (Option (T V)) :=
  Option.rec (motive := fun _ => Option (Option (T V))) none (fun a => Option.rec (motive := fun _ => Option (Option (T V))) none (fun b => some (ite' (Bool.or (isSm a) (isSm b)) (some (T.cat (getU a l) (getU b r))) none)) y) x
def manyU (g : T V → Option (T V)) (c : T V) : Option (Option (T V)) := ite' (Nat.beq (T.size c) 129) (ite' (secB c) (some (g c)) none) none
def mapU (g : T V → Option (T V)) (c : T V) : Option (Option (T V)) :=
  T.rec (motive := fun _ => Option (Option (T V))) (fun n a => manyU g (.z n a)) (fun n x => manyU g (.bs n x)) (fun h l r x y => ite' (Nat.beq (Nat.mod h 129) 0) (joinU l r x y) (manyU g (.nd h l r))) c
def GUK (g : T V → Option (T V)) (gv : Sec → List Value) : Prop := ∀ (φ : Phi) (c : T V) (s : Sec), TR φ c (Sec.cs s) → s.ok → TR φ (T.sub c 0 64) (bytesV s.now) → TR φ (T.sub c 64 64) (bytesV s.lasts) → TR φ (getU (g c) c) (gv s)
theorem joinU_some {l r : T V} {x y : Option (Option (T V))} {c : Option (T V)} (hj : joinU l r x y = some c) (h : Nat) : ∃ a b, x = some a ∧ y = some b ∧ ∀ (φ : Phi) (k1 k2 : List Value), ((a = none → k1.length = h)) → TR φ (getU a l) k1 → TR φ (getU b r) k2 → TR φ (getU c (.nd h l r)) (k1 ++ k2) := by
  cases x with
  | none => cases hj
  | some a =>
    cases y with
    | none => cases hj
    | some b =>
      change some (ite' (Bool.or (isSm a) (isSm b)) (some (T.cat (getU a l) (getU b r))) none) = some c at hj
      refine ⟨a, b, rfl, rfl, fun φ k1 k2 hk h1 h2 => ?_⟩
      cases a with
      | some a' => cases hj; exact TR.cat h1 h2
      | none =>
        cases b with
        | some b' => cases hj; exact TR.cat h1 h2
        | none =>
          cases hj
          show TR φ (.nd h l r) _
          unfold TR
          exact ⟨k1, k2, rfl, hk rfl, h1, h2⟩
theorem manyU_ok {g : T V → Option (T V)} {gv : Sec → List Value} (hg : GUK g gv) {c : T V} {r : Option (T V)} {l : List Value} (ht : TR φ c l) (hm : manyU g c = some r) : ∃ ss : List Sec, (∀ s ∈ ss, s.ok) ∧ l = secsV ss ∧ TR φ (getU r c) (ss.flatMap gv) := by
  unfold manyU at hm
  cases hb : Nat.beq (T.size c) 129 with
  | true =>
    rw [hb] at hm
    have hb := Nat.eq_of_beq_eq_true hb
    rw [TR.size ht] at hb
    cases hs : secB c with
    | false => rw [hs] at hm; cases hm
    | true =>
      rw [hs] at hm
      cases hm
      obtain ⟨s, k1, rfl, k3, k4⟩ := secB_ok ht hb hs
      exact ⟨[s], by simpa using k1, by simp [secsV], by simpa using hg φ c s ht k1 k3 k4⟩
  | false => rw [hb] at hm; cases hm
theorem mapU_ok {g : T V → Option (T V)} {gv : Sec → List Value} (hg : GUK g gv) (hgl : ∀ s : Sec, s.ok → (gv s).length = 129) : ∀ {c : T V} {r : Option (T V)} {l : List Value}, TR φ c l → mapU g c = some r → ∃ ss : List Sec, (∀ s ∈ ss, s.ok) ∧ l = secsV ss ∧ TR φ (getU r c) (ss.flatMap gv)
  | .z n a, r, l, ht, hm => manyU_ok hg ht hm
  | .bs n x, r, l, ht, hm => manyU_ok hg ht hm
  | .nd k a b, r, l, ht, hm => by
    change ite' (Nat.beq (Nat.mod k 129) 0) (joinU a b (mapU g a) (mapU g b)) (manyU g (.nd k a b)) = some r at hm
    cases hb : Nat.beq (Nat.mod k 129) 0 with
    | false => rw [hb] at hm; exact manyU_ok hg ht hm
    | true =>
      rw [hb] at hm
      obtain ⟨x, y, h1, h2, h3⟩ := joinU_some hm k
      unfold TR at ht
      obtain ⟨l1, l2, rfl, e1, t1, t2⟩ := ht
      obtain ⟨s1, p1, p2, p3⟩ := mapU_ok hg hgl t1 h1
      obtain ⟨s2, q1, q2, q3⟩ := mapU_ok hg hgl t2 h2
      refine ⟨s1 ++ s2, fun x hx => ?_, by rw [p2, q2]; simp [secsV], ?_⟩
      · rcases List.mem_append.1 hx with hx | hx
        · exact p1 x hx
        · exact q1 x hx
      · rw [List.flatMap_append]
        refine h3 φ _ _ (fun _ => ?_) p3 q3
        rw [chunk_length (k := 129) (fun s hs => hgl s (p1 s hs)), ← e1, p2, secsV_length p1]
/-- two rows of packed bytes that are one -/
def bsEq (a b : T V) : Bool := T.rec (motive := fun _ => Bool) (fun _ _ => false) (fun n x => T.rec (motive := fun _ => Bool) (fun _ _ => false) (fun m y => Bool.and (Nat.beq n m) (Nat.beq x y)) (fun _ _ _ _ _ => false) b) (fun _ _ _ _ _ => false) a
theorem bsEq_ok {a b : T V} {l k : List Value} (h : bsEq a b = true) (ha : TR φ a l) (hb : TR φ b k) : l = k := by
  cases a <;> try exact (Bool.false_ne_true h).elim
  cases b <;> try exact (Bool.false_ne_true h).elim
  rename_i n x m y
  change Bool.and (Nat.beq n m) (Nat.beq x y) = true at h
  simp only [Bool.and_eq_true] at h
  have h1 := Nat.eq_of_beq_eq_true h.1
  have h2 := Nat.eq_of_beq_eq_true h.2
  subst h1 h2
  unfold TR at ha hb
  rw [ha.1, hb.1]
/-- the sector is at rest: it lasts as it is -/
def restB (c : T V) : Bool := Bool.and (elB (T.get c 128) false fun b => Bool.not b) (bsEq (T.sub c 0 64) (T.sub c 64 64))
theorem bytesV_inj : ∀ {a b : List UInt8}, bytesV a = bytesV b → a = b
  | [], [], _ => rfl
  | [], _ :: _, h => by simp [bytesV] at h
  | _ :: _, [], h => by simp [bytesV] at h
  | x :: a, y :: b, h => by
    simp only [bytesV, List.map_cons, List.cons.injEq] at h
    have h1 := h.1
    simp only [byteV, Value.int.injEq, true_and] at h1
    rw [UInt8.toNat_inj.1 (by omega : x.toNat = y.toNat), bytesV_inj h.2]
theorem restB_ok {c : T V} {s : Sec} (hr : restB c = true) (hs : s.ok) (ht : TR φ c (Sec.cs s)) (h1 : TR φ (T.sub c 0 64) (bytesV s.now)) (h2 : TR φ (T.sub c 64 64) (bytesV s.lasts)) : s.now = s.lasts ∧ s.loose = false := by
  unfold restB at hr
  simp only [Bool.and_eq_true] at hr
  refine ⟨bytesV_inj (bsEq_ok hr.2 h1 h2), ?_⟩
  obtain ⟨y, e, hy⟩ := TR.get ht (i := 128) (by rw [Sec.cs_length hs]; decide)
  rw [cs_loose hs] at e
  cases e
  have hr1 := hr.1
  cases hv : T.get c 128 <;> rw [hv] at hr1 hy <;> try exact (Bool.false_ne_true hr1).elim
  rename_i b
  have := hy.b
  injection this with this
  rw [this]
  cases b with
  | false => rfl
  | true => exact (Bool.false_ne_true hr1).elim

/-! ### The device -/
def capIs (cap : Option Nat) (n : Nat) : Bool := Option.rec (motive := fun _ => Bool) false (fun c => Nat.beq c n) cap
def fuseB (z : Int) : Bool := Int.rec (fun n => Nat.ble n 9223372036854775807) (fun _ => false) z
/-- the device's cells -/
def devC (b : Ev.Id) (n : Nat) (calls : Int) (lit : Bool) (fuse : Int) (dead : Bool) : T V := .nd 1 (.z 1 (.sl b 0 n (some n))) (.nd 1 (.z 1 (.i .i64 calls)) (.nd 1 (.z 1 (.b lit)) (.nd 1 (.z 1 (.i .i64 fuse)) (.z 1 (.b dead)))))
def devG (a : Ev.Id) (h : Hp) (k : Ev.Id → Nat → Int → Bool → Int → Bool → Nat → Nat → T V → Ox) : Ox :=
  match PT.get a h.mem with
  | some (.row t s c) => ite' (Bool.and (Nat.beq t 116) (Nat.beq (T.size c) 5)) (elSl (T.get c 0) (.no 721) fun b o n cap => ite' (Bool.and (Bool.and (Nat.beq o 0) (capIs cap n)) (Bool.and (Nat.ble 1 n) (Nat.ble n 2048))) (ite' (Id.beq a b) (.no 722) (elI (T.get c 1) (.no 723) fun k1 calls => elB (T.get c 2) (.no 724) fun lit => elI (T.get c 3) (.no 725) fun k2 fuse => elB (T.get c 4) (.no 726) fun dead => ite' (Bool.and (Bool.and (Nat.beq (kn k1) 3) (Nat.beq (kn k2) 3)) (fuseB fuse)) (match PT.get b h.mem with
      | some (.row t2 s2 c2) => ite' (Bool.and (Nat.beq t2 119) (Nat.beq (T.size c2) (Nat.mul n 129))) (k b n calls lit fuse dead s s2 c2) (.no 727)
      | _ => .no 728) (.no 729))) (.no 731)) (.no 732)
  | _ => .no 733
/-- what is known of a device that was read -/
structure DevIn (W0 w : World) (φ : Phi) (h : Hp) (a b : Ev.Id) (B1 B2 : Bk) (n : Nat) (calls : Int) (lit : Bool) (fuse : Int) (dead : Bool) (s s2 : Nat) (c c2 : T V) (xs : List Value) : Prop where
  ga : PT.get a h.mem = some (.row 116 s c)
  gb : PT.get b h.mem = some (.row 119 s2 c2)
  hb : φ b = some B2
  ne : a ≠ b
  sa : s = B1.sz
  sb : s2 = B2.sz
  ra : TR φ c [.slice (some ⟨B2.b, 0, none⟩) n n, .int .i64 calls, .bool lit, .int .i64 fuse, .bool dead]
  ha : Holds w B1.b (.row [.slice (some ⟨B2.b, 0, none⟩) n n, .int .i64 calls, .bool lit, .int .i64 fuse, .bool dead] 116 B1.k)
  hbl : Holds w B2.b (.row xs 119 B2.k)
  rb : TR φ c2 xs
  len : xs.length = n * 129
  okb : ∀ x ∈ xs, cellsOk x = true
  lo : 1 ≤ n
  hi : n ≤ 2048
  f0 : 0 ≤ fuse
  f1 : fuse ≤ 9223372036854775807
theorem devC_ok {b : Ev.Id} {B2 : Bk} (hb : φ b = some B2) (h0 : B2.base = 0) (n : Nat) (calls : Int) (lit : Bool) (fuse : Int) (dead : Bool) : TR φ (devC b n calls lit fuse dead) [.slice (some ⟨B2.b, 0, none⟩) n n, .int .i64 calls, .bool lit, .int .i64 fuse, .bool dead] := by
  have one : ∀ (x : V) (v : Value), VR φ x v → TR φ (.z 1 x) [v] := fun x v hv => by
    unfold TR; exact ⟨rfl, fun y hy => by rw [List.mem_singleton] at hy; exact hy ▸ hv⟩
  have nd : ∀ (x : V) (v : Value) (t : T V) (l : List Value), VR φ x v → TR φ t l → TR φ (.nd 1 (.z 1 x) t) (v :: l) := fun x v t l hv ht => by
    unfold TR; exact ⟨[v], l, rfl, rfl, one x v hv, ht⟩
  unfold devC
  refine nd _ _ _ _ ?_ (nd _ _ _ _ (VR.i' _ _ _) (nd _ _ _ _ (VR.b' _ _) (nd _ _ _ _ (VR.i' _ _ _) (one _ _ (VR.b' _ _)))))
  unfold VR
  exact ⟨B2, hb, ⟨B2.b, 0, none⟩, n, rfl, Nat.le_refl _, .inl (by rw [h0]), rfl⟩
theorem devG_ok {Q : Ox → Prop} {a : Ev.Id} {B1 : Bk} (hs : Sm W0 φ h w) (ha : φ a = some B1) {k : Ev.Id → Nat → Int → Bool → Int → Bool → Nat → Nat → T V → Ox} (hno : ∀ e, Q (.no e))
    (hk : ∀ b B2 n calls lit fuse dead s s2 c c2 xs, DevIn W0 w φ h a b B1 B2 n calls lit fuse dead s s2 c c2 xs → Q (k b n calls lit fuse dead s s2 c2)) : Q (devG a h k) := by
  unfold devG
  split
  · rename_i t s c hg
    cases h1 : Bool.and (Nat.beq t 116) (Nat.beq (T.size c) 5) with
    | false => exact hno _
    | true =>
      simp only [Bool.and_eq_true] at h1
      have ht := Nat.eq_of_beq_eq_true h1.1
      have hsz := Nat.eq_of_beq_eq_true h1.2
      subst ht
      obtain ⟨pre, xs, p1, p2, p3, p4, p5, p6⟩ := hs.row hg ha
      obtain rfl : pre = [] := List.eq_nil_of_length_eq_zero (by rw [p1]; exact hs.flat hg ha (by decide))
      rw [hsz] at p5
      match xs, p5 with
      | [v0, v1, v2, v3, v4], _ =>
        obtain ⟨y0, e0, r0⟩ := TR.get p3 (i := 0) (by simp)
        obtain ⟨y1, e1, r1⟩ := TR.get p3 (i := 1) (by simp)
        obtain ⟨y2, e2, r2⟩ := TR.get p3 (i := 2) (by simp)
        obtain ⟨y3, e3, r3⟩ := TR.get p3 (i := 3) (by simp)
        obtain ⟨y4, e4, r4⟩ := TR.get p3 (i := 4) (by simp)
        simp at e0 e1 e2 e3 e4
        subst e0 e1 e2 e3 e4
        show Q (elSl (T.get c 0) _ _)
        cases hv0 : T.get c 0 <;> try exact hno _
        rename_i b o n cap
        rw [hv0] at r0
        show Q (ite' (Bool.and (Bool.and (Nat.beq o 0) (capIs cap n)) (Bool.and (Nat.ble 1 n) (Nat.ble n 2048))) _ _)
        cases h2 : Bool.and (Bool.and (Nat.beq o 0) (capIs cap n)) (Bool.and (Nat.ble 1 n) (Nat.ble n 2048)) with
        | false => exact hno _
        | true =>
          simp only [Bool.and_eq_true] at h2
          obtain ⟨⟨o1, o2⟩, o3, o4⟩ := h2
          have o1 := Nat.eq_of_beq_eq_true o1
          have o3 := Nat.le_of_ble_eq_true o3
          have o4 := Nat.le_of_ble_eq_true o4
          subst o1
          cases cap with
          | none => exact (Bool.false_ne_true o2).elim
          | some cc =>
            have o2 : cc = n := Nat.eq_of_beq_eq_true o2
            subst o2
            show Q (ite' (Id.beq a b) _ _)
            cases h3 : Id.beq a b with
            | true => exact hno _
            | false =>
              have hne : a ≠ b := fun e => by rw [Id.beq_iff.2 e] at h3; cases h3
              show Q (elI (T.get c 1) _ _)
              cases hv1 : T.get c 1 <;> try exact hno _
              rename_i k1 calls
              rw [hv1] at r1
              show Q (elB (T.get c 2) _ _)
              cases hv2 : T.get c 2 <;> try exact hno _
              rename_i lit
              rw [hv2] at r2
              show Q (elI (T.get c 3) _ _)
              cases hv3 : T.get c 3 <;> try exact hno _
              rename_i k2 fuse
              rw [hv3] at r3
              show Q (elB (T.get c 4) _ _)
              cases hv4 : T.get c 4 <;> try exact hno _
              rename_i dead
              rw [hv4] at r4
              show Q (ite' (Bool.and (Bool.and (Nat.beq (kn k1) 3) (Nat.beq (kn k2) 3)) (fuseB fuse)) _ _)
              cases h4 : Bool.and (Bool.and (Nat.beq (kn k1) 3) (Nat.beq (kn k2) 3)) (fuseB fuse) with
              | false => exact hno _
              | true =>
                simp only [Bool.and_eq_true] at h4
                obtain ⟨⟨q1, q2⟩, q3⟩ := h4
                have q1 : k1 = .i64 := kn_inj q1
                have q2 : k2 = .i64 := kn_inj q2
                subst q1 q2
                have hf : 0 ≤ fuse ∧ fuse ≤ 9223372036854775807 := by
                  cases fuse with
                  | negSucc m => exact (Bool.false_ne_true q3).elim
                  | ofNat m =>
                    have : m ≤ 9223372036854775807 := Nat.le_of_ble_eq_true q3
                    exact ⟨Int.natCast_nonneg m, by show (m : Int) ≤ _; omega⟩
                show Q (match PT.get b h.mem with | some (.row t2 s2 c2) => _ | _ => _)
                split
                · rename_i t2 s2 c2 hg2
                  cases h5 : Bool.and (Nat.beq t2 119) (Nat.beq (T.size c2) (Nat.mul cc 129)) with
                  | false => exact hno _
                  | true =>
                    simp only [Bool.and_eq_true] at h5
                    have ht2 := Nat.eq_of_beq_eq_true h5.1
                    have hs2 : T.size c2 = cc * 129 := Nat.eq_of_beq_eq_true h5.2
                    subst ht2
                    have r0' := r0
                    unfold VR at r0
                    obtain ⟨B2, hb, x, cx, rfl, g1, g2, rfl⟩ := r0
                    have hfl := hs.flat hg2 hb (by decide)
                    have g2 : x = ⟨B2.b, 0, none⟩ := by
                      rcases g2 with g2 | g2
                      · rw [g2, hfl]
                      · omega
                    subst g2
                    rw [r1.i, r2.b, r3.i, r4.b] at p2 p3
                    obtain ⟨pre2, xs2, z1, z2, z3, z4, z5, z6⟩ := hs.row hg2 hb
                    obtain rfl : pre2 = [] := List.eq_nil_of_length_eq_zero (by rw [z1]; exact hfl)
                    exact hk b B2 cx calls lit fuse dead s s2 c c2 xs2 ⟨hg, hg2, hb, hne, p6, z6, p3, by simpa using p2, by simpa using z2, z3, by rw [z5, hs2], z4, o3, o4, hf.1, hf.2⟩
                · exact hno _
  · exact hno _
end
end
end Go.Proofs.YtokggoikffcijaaGreatDoor
