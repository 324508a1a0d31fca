/-
  The log opened: what lasts is read; walked.
-/
import Derived.Test.YtjfjmhmfhkdcbabWl8
import Derived.Test.YtjfjmhmfhkdcbabSLI
namespace Go.Proofs.Ytjfjmhmfhkdcbab
open Go Go.SL Go.RowKit

abbrev LsB : Type := List (Option Addr × Nat × List UInt8)
def hdrB (x : Option Addr × Nat × List UInt8) : Value := .slice x.1 x.2.2.length x.2.1
def RowsO (v : Value) (ls : LsB) (s0 s1 : Seg) : Prop := OwnS v ls.length (ls.map hdrB) 34 1 s0 ∧ ∀ x ∈ ls, ∀ W0 L, Rd W0 (s1 :: L) x.1 (bytesV x.2.2)
theorem RowsO.nil : RowsO (.slice none 0 0) [] [] [] := ⟨OwnS.nil _ _, fun x hx => by simp at hx⟩
theorem shl_or_i64 (s : Nat) (x : UInt8) (h : s < 256 ^ 6) : IntKind.i64.wrap ((BitVec.ofInt 64 (IntKind.i64.wrap ((s : Int) * 2 ^ (min (8 : Int).toNat 64))) ||| BitVec.ofInt 64 (IntKind.i64.wrap (x.toNat : Int))).toNat) = ((s * 256 + x.toNat : Nat) : Int) := by
  have hx := x.toNat_lt
  have e1 : IntKind.i64.wrap ((s : Int) * 2 ^ (min (8 : Int).toNat 64)) = ((s * 256 : Nat) : Int) := by
    rw [show (2 : Int) ^ (min (8 : Int).toNat 64) = 256 from rfl, wrap_i64 (by omega)]
    omega
  have e2 : IntKind.i64.wrap (x.toNat : Int) = ((x.toNat : Nat) : Int) := wrap_i64 (by omega)
  have e3 : (BitVec.ofInt 64 ((s * 256 : Nat) : Int) ||| BitVec.ofInt 64 ((x.toNat : Nat) : Int)).toNat = s * 256 + x.toNat := by
    rw [BitVec.toNat_or, BitVec.ofInt_natCast, BitVec.ofInt_natCast, BitVec.toNat_ofNat, BitVec.toNat_ofNat, Nat.mod_eq_of_lt (by omega), Nat.mod_eq_of_lt (by omega)]
    have h1 := Nat.two_pow_add_eq_or_of_lt (i := 8) (b := x.toNat) hx s
    rw [show 2 ^ 8 * s = s * 256 by omega] at h1
    exact h1.symm
  rw [e1, e2, e3]
  exact wrap_i64 (by omega)
theorem Mem.recs {W0 w : World} {a b c d : Seg} {L : List Seg} (h : Mem W0 w (a :: b :: c :: d :: L)) : Mem W0 w (a :: (c ++ d) :: L) := h.fewer (by
  simp only [List.flatten_cons, List.append_assoc]
  exact List.Sublist.append (List.Sublist.refl _) (List.sublist_append_right _ _))
section
variable (W0 : World) (S L0 : List Seg) (bd bl : Nat)
theorem walopen_spec (d : Dv) (p : Sp) (t : Nat) (base : Nat) (rs : List (List UInt8)) (hw : Wd d p t base (strm rs)) (ht : t < 1000000) (hrs : recsOk rs) (hl : size rs ≤ 65536) (hbig : base + size rs < 1000000000000) :
    FnS Try.prog W0 17 #[ptr bd] (S ++ (devSeg bd bl d :: L0)) (fun r L' => ∃ bg bs sg sp v ls s0 s1, L' = s0 :: s1 :: sg :: sp :: (S ++ (devSeg bd bl d :: L0)) ∧ LgIs bg bs bd (newLg (dby d) base (base + size rs)) sg ∧ SpIs bs bd p sp ∧ RowsO v ls s0 s1 ∧ ls.map (·.2.2) = rs ∧ r = .returned (.tuple #[ptr bg, v, .int .i64 0])) := by
  have hpa := hw.pa
  have hdl := hw.len
  obtain ⟨e, he⟩ : ∃ e, e = base + size rs := ⟨_, rfl⟩
  have htext : p.text = num base ++ num e := by rw [he]; exact hw.text
  have hnb := num_length (n := base) (by omega)
  have hne := num_length (n := e) (by omega)
  have hpl : p.text.length ≤ 12 := by rw [htext, List.length_append]; omega
  obtain ⟨zs, hz⟩ : ∃ zs : List Value, zs = List.replicate 65536 (.int .u8 0) := ⟨_, rfl⟩
  have hzr := zeros_ring hz
  rw [← he]
  have hnow := hw.now
  have hrl := length_le_size rs
  refine FnS.of (args := [ptr bd]) Try.func17 rfl rfl ?_
  refine C.seq ?_
  refine C.region ?_
  refine G.assignP rfl trivial rfl rfl rfl ?_
  refine G.assignS rfl trivial rfl rfl rfl ?_
  refine G.assignI rfl trivial rfl rfl rfl ?_
  refine G.nil ?_
  refine C.seq ?_
  refine C.seq ?_
  refine C.region ?_
  refine G.moveP rfl trivial rfl rfl rfl ?_
  refine G.call E19 rfl rfl trivial rfl rfl (len_spec W0 S L0 bd bl d) rfl ?_
  rintro e L2 ⟨rfl, rfl⟩
  refine G.bin rfl trivial rfl rfl rfl rfl rfl ?_
  refine G.nil ?_
  refine C.no rfl (by omega) ?_
  refine C.skip ?_
  refine C.seq ?_
  refine C.region ?_
  refine G.moveP rfl trivial rfl rfl rfl ?_
  refine G.call E28 rfl rfl trivial rfl rfl (open_slots W0 S L0 bd bl d hw.ok p t hw.sl ht (by omega) (by rw [hpa]; rfl)) rfl ?_
  rintro e L2 ⟨bs, sp, hsp, rfl, rfl⟩
  refine G.moveU rfl trivial rfl rfl rfl ?_
  refine G.extractL rfl trivial rfl rfl rfl rfl ?_
  refine G.extractL rfl trivial rfl rfl rfl rfl ?_
  refine G.assignP rfl trivial rfl rfl rfl ?_
  refine G.assignI rfl trivial rfl rfl rfl ?_
  refine G.nil ?_
  refine C.seq ?_
  refine C.seq ?_
  refine C.region ?_
  refine G.moveI rfl trivial rfl rfl rfl ?_
  refine G.bin rfl trivial rfl rfl rfl rfl rfl ?_
  refine G.nil ?_
  refine C.no rfl (by simp) ?_
  refine C.skip ?_
  refine C.seq ?_
  refine C.region ?_
  refine G.moveP rfl trivial rfl rfl rfl ?_
  refine G.call E30 rfl rfl trivial rfl rfl (text_spec W0 [] _ bs bd p sp hsp (by omega)) rfl ?_
  rintro e L2 ⟨v31, s31, hv31, rfl, rfl⟩
  obtain ⟨a31, c31, rfl, hr31⟩ := hv31.form
  refine G.call E29 rfl rfl trivial rfl rfl (get_spec W0 _ a31 c31 base (by omega) (num e) p.text htext rfl (hr31 _ _)) rfl ?_
  rintro e L2 ⟨rfl, rfl⟩
  refine G.moveU rfl trivial rfl rfl rfl ?_
  refine G.extractL rfl trivial rfl rfl rfl rfl ?_
  refine G.extractL rfl trivial rfl rfl rfl rfl ?_
  refine G.extractL rfl trivial rfl rfl rfl rfl ?_
  refine G.assignI rfl trivial rfl rfl rfl ?_
  refine G.assignI rfl trivial rfl rfl rfl ?_
  refine G.assignI rfl trivial rfl rfl rfl ?_
  refine G.nil ?_
  refine C.seq ?_
  refine C.seq ?_
  refine C.region ?_
  refine G.moveI rfl trivial rfl rfl rfl ?_
  refine G.bin rfl trivial rfl rfl rfl rfl rfl ?_
  refine G.nil ?_
  refine C.no rfl (by simp) ?_
  refine C.skip ?_
  refine C.seq ?_
  refine C.region ?_
  refine G.moveP rfl trivial rfl rfl rfl ?_
  refine G.call E30 rfl rfl trivial rfl rfl (text_spec W0 [_] _ bs bd p sp hsp (by omega)) rfl ?_
  rintro e L2 ⟨v40, s40, hv40, rfl, rfl⟩
  obtain ⟨a40, c40, rfl, hr40⟩ := hv40.form
  have hcap40 := hv40.cap
  have htl : p.text.length = (num base).length + (num e).length := by rw [htext, List.length_append]
  refine G.moveI rfl trivial rfl rfl rfl ?_
  refine G.sliceL rfl trivial rfl rfl Try.underlying34 I5 rfl rfl (by omega) ?_
  refine G.call E29 rfl rfl trivial rfl rfl (get_spec W0 _ (cutA a40 c40 (num base).length 1) _ e (by omega) [] (num e) (by simp) (by show p.text.length - (num base).length = _; omega) (by have h := (hr40 W0 (s31 :: [] ++ (sp :: (S ++ (devSeg bd bl d :: L0))))).cut (cap := c40) (l := (num base).length) (sz := 1) (n := p.text.length) (by simp) hcap40; rw [bytesV_drop, Nat.mul_one, htext, List.drop_left] at h; exact h)) rfl ?_
  rintro e L2 ⟨rfl, rfl⟩
  refine G.moveU rfl trivial rfl rfl rfl ?_
  refine G.extractL rfl trivial rfl rfl rfl rfl ?_
  refine G.extractL rfl trivial rfl rfl rfl rfl ?_
  refine G.extractL rfl trivial rfl rfl rfl rfl ?_
  refine G.assignI rfl trivial rfl rfl rfl ?_
  refine G.assignI rfl trivial rfl rfl rfl ?_
  refine G.assignI rfl trivial rfl rfl rfl ?_
  refine G.nil ?_
  refine C.seq ?_
  refine C.seq ?_
  refine C.region ?_
  refine G.moveI rfl trivial rfl rfl rfl ?_
  refine G.bin rfl trivial rfl rfl rfl rfl rfl ?_
  refine G.moveB rfl trivial rfl rfl rfl ?_
  refine G.no (t := 49) rfl (by simp) ?_
  refine G.moveI rfl ⟨_, rfl, rfl, rfl⟩ rfl rfl rfl ?_
  refine G.bin rfl ⟨_, rfl, rfl, rfl⟩ rfl rfl rfl rfl rfl ?_
  first | refine G.pickT rfl trivial rfl rfl rfl rfl ?_ | refine G.pickF rfl trivial rfl rfl rfl rfl ?_
  refine G.moveB rfl trivial rfl rfl rfl ?_
  refine G.no (t := 53) rfl (by omega) ?_
  refine G.moveI rfl ⟨_, rfl, rfl, rfl⟩ rfl rfl rfl ?_
  refine G.moveI rfl ⟨_, rfl, rfl, rfl⟩ rfl rfl rfl ?_
  refine G.bin rfl ⟨_, rfl, rfl, rfl⟩ rfl rfl rfl rfl rfl ?_
  first | refine G.pickT rfl trivial rfl rfl rfl rfl ?_ | refine G.pickF rfl trivial rfl rfl rfl rfl ?_
  refine G.moveB rfl trivial rfl rfl rfl ?_
  refine G.no (t := 58) rfl (by omega) ?_
  refine G.moveI rfl ⟨_, rfl, rfl, rfl⟩ rfl rfl rfl ?_
  refine G.moveI rfl ⟨_, rfl, rfl, rfl⟩ rfl rfl rfl ?_
  refine G.sub rfl ⟨_, rfl, rfl, rfl⟩ rfl rfl rfl rfl (by omega) ?_
  refine G.bin rfl ⟨_, rfl, rfl, rfl⟩ rfl rfl rfl rfl rfl ?_
  first | refine G.pickT rfl trivial rfl rfl rfl rfl ?_ | refine G.pickF rfl trivial rfl rfl rfl rfl ?_
  refine G.moveB rfl trivial rfl rfl rfl ?_
  refine G.no (t := 64) rfl (by omega) ?_
  refine G.moveI rfl ⟨_, rfl, rfl, rfl⟩ rfl rfl rfl ?_
  refine G.moveI rfl ⟨_, rfl, rfl, rfl⟩ rfl rfl rfl ?_
  refine G.call E21 rfl rfl ⟨_, rfl, rfl, rfl⟩ rfl rfl (text2_spec W0 _ base e (by omega) (by omega)) rfl ?_
  rintro e L2 ⟨v67, s67, hv67, rfl, rfl⟩
  obtain ⟨a67, c67, rfl, hr67⟩ := hv67.form
  refine G.moveP rfl ⟨_, rfl, rfl, rfl⟩ rfl rfl rfl ?_
  refine G.call E30 rfl rfl ⟨_, rfl, rfl, rfl⟩ rfl rfl (text_spec W0 [_, _, _] _ bs bd p sp hsp (by omega)) rfl ?_
  rintro e L2 ⟨v69, s69, hv69, rfl, rfl⟩
  obtain ⟨a69, c69, rfl, hr69⟩ := hv69.form
  refine G.call E31 rfl rfl ⟨_, rfl, rfl, rfl⟩ rfl rfl (equal_spec W0 _ a67 a69 c67 c69 _ _ (txt base e) p.text rfl rfl (hr67 _ _).cons (hr69 _ _)) rfl ?_
  rintro e L2 ⟨rfl, rfl⟩
  rw [decide_eq_true (show txt base e = p.text from htext.symm)]
  first | refine G.notD rfl ⟨_, rfl, rfl, rfl⟩ rfl rfl rfl ?_ | refine G.not rfl ⟨_, rfl, rfl, rfl⟩ rfl rfl rfl ?_
  refine G.fix (d := 71) (v := .bool false) rfl ?_
  first | refine G.pickT rfl trivial rfl rfl rfl rfl ?_ | refine G.pickF rfl trivial rfl rfl rfl rfl ?_
  refine G.less (fun _ h => h.tail.tail.tail.tail) ?_
  refine G.nil ?_
  refine C.condF rfl ?_
  refine C.skip ?_
  refine C.seq ?_
  refine C.region ?_
  refine G.moveP rfl trivial rfl rfl rfl ?_
  refine G.moveP rfl trivial rfl rfl rfl ?_
  refine G.moveI rfl trivial rfl rfl rfl ?_
  refine G.moveI rfl trivial rfl rfl rfl ?_
  refine G.moveI rfl trivial rfl rfl rfl ?_
  refine G.buildL (cs := logRow bd bs zs base e e (.slice none 0 0) false) rfl trivial rfl rfl Try.underlying66 I66 B66 rfl (fill_log3 bd bs hz base e) ?_
  refine G.boxG rfl trivial rfl rfl rfl ?_
  intro bg
  rw [lr_length hzr.1]
  refine G.assignP rfl trivial rfl rfl rfl ?_
  refine G.nil ?_
  refine C.seq ?_
  refine C.seq ?_
  refine C.region ?_
  refine G.moveP rfl trivial rfl rfl rfl ?_
  refine G.call E22 rfl rfl trivial rfl rfl (load_spec W0 ([_] ++ S) _ bg bs bd bl { R := fun _ => 0, base := base, forced := e, end_ := e, ends := [], bad := false } _ ⟨zs, _, [], hzr, OwnT.nil _, rfl⟩ d hw.ok hw.len) rfl ?_
  rintro e L2 ⟨sg, hsg, rfl, rfl⟩
  change LgIs bg bs bd (newLg (dby d) base e) sg at hsg
  refine G.assignI rfl trivial rfl rfl rfl ?_
  refine G.nil ?_
  refine C.seq ?_
  refine C.region ?_
  refine G.moveI rfl trivial rfl rfl rfl ?_
  refine G.bin rfl trivial rfl rfl rfl rfl rfl ?_
  refine G.nil ?_
  refine C.no rfl (by simp) ?_
  refine C.skip ?_
  refine C.seq ?_
  refine C.region ?_
  refine G.assignS rfl trivial rfl rfl rfl ?_
  refine G.nil ?_
  refine C.seq ?_
  refine C.seq ?_
  refine C.region ?_
  refine G.moveI rfl trivial rfl rfl rfl ?_
  refine G.assignI rfl trivial rfl rfl rfl ?_
  refine G.less (fun _ h => h.empty.empty) ?_
  refine G.nil ?_
  refine C.block ?_
  refine C.loop (fun m F D' L' => ∃ (ls : LsB) (ys : List (List UInt8)) (a : Option Addr) (c : Nat) (s0 s1 : Seg), ls.map (·.2.2) ++ ys = rs ∧ RowsO (.slice a ls.length c) ls s0 s1 ∧ m = ys.length ∧ F 13 = .slice a ls.length c ∧ F 14 = .int .i64 ((base + size (ls.map (·.2.2)) : Nat) : Int) ∧ F 9 = .int .i64 (e : Int) ∧ F 11 = ptr bg ∧ D' = [] ∧ s0 :: s1 :: sg :: sp :: (S ++ (devSeg bd bl d :: L0)) = L') ⟨_, ⟨[], rs, none, 0, [], [], rfl, RowsO.nil, rfl, rfl, rfl, rfl, rfl, rfl, rfl⟩⟩ ?_
  rintro m F D' L' ⟨ls, ys, a, c, s0, s1, hls, hro, rfl, h13, h14, h9, h11, rfl, rfl⟩
  refine C.fix (d := 13) h13 ?_
  refine C.fix (d := 14) h14 ?_
  refine C.fix (d := 9) h9 ?_
  refine C.fix (d := 11) h11 ?_
  refine C.seq ?_
  refine C.seq ?_
  refine C.region ?_
  refine G.moveI rfl trivial rfl rfl rfl ?_
  refine G.moveI rfl trivial rfl rfl rfl ?_
  refine G.bin rfl trivial rfl rfl rfl rfl rfl ?_
  refine G.nil ?_
  refine C.cond _ rfl ?_ ?_
  · intro hc5
    have hsz : size (ls.map (·.2.2)) + size ys = size rs := by rw [← size_append, hls]
    obtain ⟨z, ys, rfl⟩ : ∃ z ys2, ys = z :: ys2 := by
      cases ys with
      | nil => rw [size_nil] at hsz; omega
      | cons z ys2 => exact ⟨z, ys2, rfl⟩
    rw [size_cons] at hsz
    obtain ⟨hz1, hz2⟩ := hrs z (by rw [← hls]; simp)
    have hstr : strm rs = strm (ls.map (·.2.2)) ++ ((be 4 z.length ++ z) ++ strm ys) := by rw [← hls, strm_append, strm_cons]; rfl
    have hh0 : Has (dby d) base (strm rs) := hnow
    rw [hstr] at hh0
    have hh1 : Has (dby d) (base + size (ls.map (·.2.2))) (be 4 z.length) := hh0.right.left.left
    have hh2 : Has (dby d) (base + size (ls.map (·.2.2)) + 4) z := by have h := hh0.right.left.right; rw [be_length] at h; exact h
    obtain ⟨at_, hat⟩ : ∃ x, x = base + size (ls.map (·.2.2)) := ⟨_, rfl⟩
    rw [← hat] at hh1 hh2 ⊢
    have hbe := be_length 4 z.length
    have hlsl : ls.length + ys.length + 1 = rs.length := by rw [← hls]; simp; omega
    refine C.skip ?_
    refine C.block ?_
    refine C.seq ?_
    refine C.region ?_
    refine G.assignI rfl trivial rfl rfl rfl ?_
    refine G.nil ?_
    refine C.seq ?_
    refine C.seq ?_
    refine C.region ?_
    refine G.moveI rfl trivial rfl rfl rfl ?_
    refine G.moveI rfl trivial rfl rfl rfl ?_
    refine G.sub rfl trivial rfl rfl rfl rfl (by omega) ?_
    refine G.bin rfl trivial rfl rfl rfl rfl rfl ?_
    refine G.nil ?_
    refine C.yes rfl (by omega) ?_
    refine C.seq ?_
    refine C.region ?_
    refine G.moveP rfl trivial rfl rfl rfl ?_
    refine G.moveI rfl trivial rfl rfl rfl ?_
    refine G.moveI rfl trivial rfl rfl rfl ?_
    refine G.add rfl trivial rfl rfl rfl rfl (by omega) ?_
    refine G.fix (d := 96) (v := .int .i64 ((at_ + 4 : Nat) : Int)) (by show Value.int .i64 _ = _; congr 1) ?_
    refine G.call E32 rfl rfl trivial rfl rfl (lget_spec W0 [_, _] _ bg bs bd (newLg (dby d) base e) sg hsg (be 4 z.length) at_ (at_ + 4) (by rw [hbe]) (by omega) (by omega) hh1) rfl ?_
    rintro e L2 ⟨v97, s97, hv97, rfl, rfl⟩
    rw [hbe] at hv97
    obtain ⟨b97, c97, k97, rfl, rfl, hk97, hc97⟩ := hv97.block (by decide)
    refine G.lenSlice rfl trivial rfl rfl Try.underlying34 rfl ?_
    refine G.moveI rfl trivial rfl rfl rfl ?_
    refine G.nil ?_
    refine C.post (fun F D' L' => F 15 = .int .i64 (z.length : Int) ∧ F 13 = .slice a ls.length c ∧ F 14 = .int .i64 (at_ : Int) ∧ F 9 = .int .i64 (e : Int) ∧ F 11 = ptr bg ∧ D' = [] ∧ [(b97, .row (bytesV (be 4 z.length)) 5 k97)] :: s0 :: s1 :: sg :: sp :: (S ++ (devSeg bd bl d :: L0)) = L') ?_ ?_
    ·
      refine C.block ?_
      refine C.loop (fun m F D' L' => ∃ i : Nat, i ≤ 4 ∧ m = 4 - i ∧ F 15 = .int .i64 ((beVal ((be 4 z.length).take i) : Nat) : Int) ∧ F 99 = .int .i64 (i : Int) ∧ F 98 = .int .i64 ((4 : Nat) : Int) ∧ F 97 = .slice (some ⟨b97, 0, none⟩) 4 c97 ∧ F 13 = .slice a ls.length c ∧ F 14 = .int .i64 (at_ : Int) ∧ F 9 = .int .i64 (e : Int) ∧ F 11 = ptr bg ∧ D' = [] ∧ [(b97, .row (bytesV (be 4 z.length)) 5 k97)] :: s0 :: s1 :: sg :: sp :: (S ++ (devSeg bd bl d :: L0)) = L') ⟨_, ⟨0, by omega, rfl, rfl, rfl, rfl, rfl, rfl, rfl, rfl, rfl, rfl, rfl⟩⟩ ?_
      rintro m F D' L' ⟨i, hi, rfl, h15, h99, h98, h97, h13, h14, h9, h11, rfl, rfl⟩
      refine C.fix (d := 15) h15 ?_
      refine C.fix (d := 99) h99 ?_
      refine C.fix (d := 98) h98 ?_
      refine C.fix (d := 97) h97 ?_
      refine C.fix (d := 13) h13 ?_
      refine C.fix (d := 14) h14 ?_
      refine C.fix (d := 9) h9 ?_
      refine C.fix (d := 11) h11 ?_
      refine C.seq ?_
      refine C.region ?_
      refine G.bin rfl trivial rfl rfl rfl rfl rfl ?_
      refine G.nil ?_
      refine C.seq ?_
      refine C.cond _ rfl ?_ ?_
      · intro hc7
        have hlt : i < (be 4 z.length).length := by omega
        have hacc : beVal ((be 4 z.length).take i) < 256 ^ 6 := Nat.lt_of_lt_of_le (beVal_lt _) (Nat.pow_le_pow_right (by decide) (by rw [List.length_take]; omega))
        refine C.skip ?_
        refine C.seq ?_
        refine C.block ?_
        refine C.seq ?_
        refine C.region ?_
        refine G.indexAddr rfl trivial rfl rfl Try.underlying34 I5 rfl rfl (by omega) ?_
        refine G.load (v := .int .u8 ((be 4 z.length)[i].toNat : Int)) rfl trivial rfl rfl Try.underlying5 rfl rfl (fun w hm => by have h := Rd.cell_at (vs := bytesV (be 4 z.length)) (j := i) (Rd.row0 .here) (by simpa using hlt) w hm; rw [bytesV_at hlt] at h; simpa using h) ?_
        refine G.assignI rfl trivial rfl rfl rfl ?_
        refine G.nil ?_
        refine C.region ?_
        refine G.moveI rfl trivial rfl rfl rfl ?_
        refine G.shl rfl trivial rfl rfl rfl rfl (by omega) ?_
        refine G.moveI rfl trivial rfl rfl rfl ?_
        refine G.convInt rfl trivial rfl rfl Try.underlying5 Try.underlying2 rfl ?_
        refine G.bin rfl trivial rfl rfl rfl rfl rfl ?_
        refine G.fix (d := 107) (v := .int .i64 ((beVal ((be 4 z.length).take (i + 1)) : Nat) : Int)) (by show Value.int .i64 _ = _; rw [take1 _ hlt, show beVal ((be 4 z.length).take i ++ [(be 4 z.length)[i]]) = beVal ((be 4 z.length).take i) * 256 + (be 4 z.length)[i].toNat from by unfold beVal beFrom; rw [List.foldl_append]; rfl]; exact congrArg _ (shl_or_i64 _ _ hacc)) ?_
        refine G.assignI rfl trivial rfl rfl rfl ?_
        refine G.nil ?_
        refine C.region ?_
        refine G.add rfl trivial rfl rfl rfl rfl (by omega) ?_
        refine G.moveI rfl trivial rfl rfl rfl ?_
        refine G.nil ?_
        exact ⟨4 - (i + 1), by omega, i + 1, by omega, rfl, rfl, rfl, rfl, rfl, rfl, rfl, rfl, rfl, rfl, rfl⟩
      · intro hc7
        refine C.exit ?_
        obtain rfl : i = 4 := by omega
        exact ⟨by show Value.int .i64 _ = _; rw [List.take_of_length_le (by omega), beVal_be (by omega)], rfl, rfl, rfl, rfl, rfl, rfl⟩
    ·
      rintro F D' L' ⟨h15, h13, h14, h9, h11, rfl, rfl⟩
      refine C.fix (d := 15) h15 ?_
      refine C.fix (d := 13) h13 ?_
      refine C.fix (d := 14) h14 ?_
      refine C.fix (d := 9) h9 ?_
      refine C.fix (d := 11) h11 ?_
      refine C.seq ?_
      refine C.seq ?_
      refine C.region ?_
      refine G.moveI rfl trivial rfl rfl rfl ?_
      refine G.bin rfl trivial rfl rfl rfl rfl rfl ?_
      refine G.moveB rfl trivial rfl rfl rfl ?_
      refine G.no (t := 111) rfl (by omega) ?_
      refine G.moveI rfl ⟨_, rfl, rfl, rfl⟩ rfl rfl rfl ?_
      refine G.bin rfl ⟨_, rfl, rfl, rfl⟩ rfl rfl rfl rfl rfl ?_
      first | refine G.pickT rfl trivial rfl rfl rfl rfl ?_ | refine G.pickF rfl trivial rfl rfl rfl rfl ?_
      refine G.moveB rfl trivial rfl rfl rfl ?_
      refine G.no (t := 115) rfl (by omega) ?_
      refine G.moveI rfl ⟨_, rfl, rfl, rfl⟩ rfl rfl rfl ?_
      refine G.moveI rfl ⟨_, rfl, rfl, rfl⟩ rfl rfl rfl ?_
      refine G.moveI rfl ⟨_, rfl, rfl, rfl⟩ rfl rfl rfl ?_
      refine G.sub rfl ⟨_, rfl, rfl, rfl⟩ rfl rfl rfl rfl (by omega) ?_
      refine G.sub rfl ⟨_, rfl, rfl, rfl⟩ rfl rfl rfl rfl (by omega) ?_
      refine G.bin rfl ⟨_, rfl, rfl, rfl⟩ rfl rfl rfl rfl rfl ?_
      first | refine G.pickT rfl trivial rfl rfl rfl rfl ?_ | refine G.pickF rfl trivial rfl rfl rfl rfl ?_
      refine G.nil ?_
      refine C.no rfl (by omega) ?_
      refine C.skip ?_
      refine C.seq ?_
      refine C.region ?_
      refine G.moveS rfl trivial rfl rfl rfl ?_
      refine G.moveP rfl trivial rfl rfl rfl ?_
      refine G.moveI rfl trivial rfl rfl rfl ?_
      refine G.add rfl trivial rfl rfl rfl rfl (by omega) ?_
      refine G.fix (d := 126) (v := .int .i64 ((at_ + 4 : Nat) : Int)) (by show Value.int .i64 _ = _; congr 1) ?_
      refine G.moveI rfl trivial rfl rfl rfl ?_
      refine G.add rfl trivial rfl rfl rfl rfl (by omega) ?_
      refine G.moveI rfl trivial rfl rfl rfl ?_
      refine G.add rfl trivial rfl rfl rfl rfl (by omega) ?_
      refine G.fix (d := 130) (v := .int .i64 ((at_ + 4 + z.length : Nat) : Int)) (by show Value.int .i64 _ = _; congr 1) ?_
      refine G.less (fun _ h => h.tail) ?_
      refine G.call E32 rfl rfl trivial rfl rfl (lget_spec W0 [_, _] _ bg bs bd (newLg (dby d) base e) sg hsg z (at_ + 4) (at_ + 4 + z.length) rfl (by omega) (by omega) hh2) rfl ?_
      rintro e L2 ⟨v131, s131, hv131, rfl, rfl⟩
      obtain ⟨a131, c131, rfl, hr131⟩ := hv131.form
      refine G.buildSliceL (cs := [.slice a131 z.length c131]) (zs := [(.slice none 0 0)]) rfl trivial rfl rfl Try.underlying51 I34 rfl (by kernel_rfl) rfl rfl ?_
      intro b132
      refine G.less (fun _ h => h.up3) ?_
      refine G.append hro.1 rfl trivial rfl rfl Try.underlying51 Try.underlying51 I34 rfl (by decide) rfl rfl (by decide) (Rd.row0 (.next .here)) rfl (by intro v hv; simp at hv; subst hv; rfl) (by omega) ?_
      intro v3 s3 hv3
      obtain ⟨a3, c3, rfl, _⟩ := hv3.form
      refine G.less (fun _ h => Mem.recs h) ?_
      refine G.assignS rfl trivial rfl rfl rfl ?_
      refine G.nil ?_
      refine C.region ?_
      refine G.moveI rfl trivial rfl rfl rfl ?_
      refine G.moveI rfl trivial rfl rfl rfl ?_
      refine G.add rfl trivial rfl rfl rfl rfl (by omega) ?_
      refine G.add rfl trivial rfl rfl rfl rfl (by omega) ?_
      refine G.fix (d := 137) (v := .int .i64 ((base + size ((ls ++ [(a131, c131, z)]).map (·.2.2)) : Nat) : Int)) (by show Value.int .i64 _ = _; rw [List.map_append, size_append]; simp only [List.map_cons, List.map_nil, size_cons, size_nil]; congr 1; omega) ?_
      refine G.assignI rfl trivial rfl rfl rfl ?_
      refine G.nil ?_
      exact ⟨ys.length, by simp, ls ++ [(a131, c131, z)], ys, a3, c3, s3, s131 ++ s1, by rw [← hls]; simp, ⟨by rw [List.length_append, List.map_append]; exact hv3, fun x hx => by (rcases List.mem_append.1 hx with hx | hx; exact fun W L => (hro.2 x hx W L).mono (fun _ h => h.fewer (by simp only [List.flatten_cons, List.append_assoc]; exact List.sublist_append_right _ _)); (simp at hx; subst hx; exact fun W L => (hr131 W L).mono (fun _ h => h.fewer (by simp only [List.flatten_cons, List.append_assoc]; exact List.Sublist.append (List.Sublist.refl _) (List.sublist_append_right _ _)))))⟩, rfl, by rw [List.length_append]; rfl, rfl, rfl, rfl, rfl, rfl⟩
  · intro hc5
    have hsz : size (ls.map (·.2.2)) + size ys = size rs := by rw [← size_append, hls]
    obtain rfl : ys = [] := size_pos (by omega)
    rw [List.append_nil] at hls
    refine C.exit ?_
    refine C.seq ?_
    refine C.region ?_
    refine G.moveP rfl trivial rfl rfl rfl ?_
    refine G.moveS rfl trivial rfl rfl rfl ?_
    refine G.assignP rfl trivial rfl rfl rfl ?_
    refine G.assignS rfl trivial rfl rfl rfl ?_
    refine G.assignI rfl trivial rfl rfl rfl ?_
    refine G.nil ?_
    refine C.ret ?_
    -- end c5F
    exact ⟨rfl, _, Res.of (rs := [.tmp 2, .tmp 3, .tmp 4]) rfl rfl, bg, bs, sg, sp, _, ls, s0, s1, rfl, hsg, hsp, hro, hls, rfl⟩
end
end Go.Proofs.Ytjfjmhmfhkdcbab
