/-
  The device's functions walked: reading and writing a sector.
-/
import Derived.Test.YtjfjmhmfhkdcbabDv1
namespace Go.Proofs.Ytjfjmhmfhkdcbab
open Go Go.SL Go.RowKit

section dev
variable (W0 : World) (S L0 : List Seg) (bd bl : Nat) (d : Dv)
theorem atE_in {d : Dv} {i : Nat} (h : i < d.l.length) : atE d (i : Int) = 0 := by unfold atE; rw [if_pos (by omega)]
theorem atE_out {d : Dv} {i : Int} (h : ¬ (0 ≤ i ∧ i < d.l.length)) : atE d i = 3 := by unfold atE; rw [if_neg h]
theorem read_ok (hd : d.ok) (i : Nat) (hi : i < d.l.length) : FnS Try.prog W0 37 #[ptr bd, .int .i64 (i : Int)] (S ++ (devSeg bd bl d :: L0))
    (fun e L' => ∃ v seg, OwnS v 64 (bytesV d.l[i].now) 5 1 seg ∧ L' = seg :: (S ++ (devSeg bd bl d :: L0)) ∧ e = .returned (.tuple #[v, .int .i64 0])) := by
  have hs := hd.1 _ (List.getElem_mem hi)
  have hlen := hd.2.1
  refine FnS.of (args := [ptr bd, .int .i64 (i : Int)]) Try.func37 rfl rfl ?_
  refine C.seq ?_
  refine C.region ?_
  refine G.assignS rfl trivial rfl rfl rfl ?_
  refine G.assignI rfl trivial rfl rfl rfl ?_
  refine G.nil ?_
  refine C.seq ?_
  refine C.seq ?_
  refine C.region ?_
  refine G.moveP rfl trivial rfl rfl rfl ?_
  refine G.moveI rfl trivial rfl rfl rfl ?_
  refine G.call E44 rfl rfl trivial rfl rfl (at_spec W0 S L0 bd bl d i) rfl ?_
  rintro e L2 ⟨rfl, rfl⟩
  rw [atE_in hi]
  refine G.assignI rfl trivial rfl rfl rfl ?_
  refine G.nil ?_
  refine C.seq ?_
  refine C.region ?_
  refine G.moveI rfl trivial rfl rfl rfl ?_
  refine G.bin rfl trivial rfl rfl rfl rfl rfl ?_
  refine G.nil ?_
  refine C.no rfl (by simp) ?_
  refine C.skip ?_
  refine C.seq ?_
  refine C.region ?_
  refine G.moveP rfl trivial rfl rfl rfl ?_
  first | refine G.nilCheckP rfl trivial rfl rfl rfl ?_ | refine G.nilCheckF rfl trivial rfl rfl rfl ?_
  refine G.fieldAddr rfl trivial rfl rfl Try.underlying57 rfl I55 rfl rfl ?_
  refine G.loadAt (by first | exact .here | exact .next .here | exact .next (.next .here) | exact .next (.next (.next .here)) | exact .next (.next (.next (.next .here))) | exact .next (.next (.next (.next (.next .here)))) | exact .next (.next (.next (.next (.next (.next .here))))) | exact .next (.next (.next (.next (.next (.next (.next .here)))))) | exact .in1 | exact .next .in1 | exact .next (.next .in1) | exact .next (.next (.next .in1)) | exact .next (.next (.next (.next .in1))) | exact .in2 | exact .next .in2 | exact .next (.next .in2) | exact .next (.next (.next .in2)) | exact .next (.next (.next (.next .in2))) | exact .app .here | exact .app (.next .here) | exact .app (.next (.next .here)) | exact .app (.next (.next (.next .here))) | exact .app (.next (.next (.next (.next .here)))) | exact .app (.next (.next (.next (.next (.next .here))))) | exact .app (.next (.next (.next (.next (.next (.next .here)))))) | exact .app (.next (.next (.next (.next (.next (.next (.next .here))))))) | exact .app .in1 | exact .app .in2 | exact .app (.next .in1) | exact .next (.app .in1) | exact .next (.next (.app .in1)) | exact .next (.app .here) | exact .next (.next (.app .here)) | exact .next (.next (.next (.app .here))) | exact .next (.next (.next (.next (.app .here))))) rfl trivial rfl rfl Try.underlying55 rfl rfl (by rfl) ?_
  refine G.moveI rfl trivial rfl rfl rfl ?_
  refine G.indexAddr rfl trivial rfl rfl Try.underlying55 I79 rfl rfl (by omega) ?_
  refine G.fieldAddr rfl trivial rfl rfl Try.underlying79 rfl I77 rfl rfl ?_
  refine G.sliceArr rfl trivial rfl rfl Try.underlying77 I5 rfl trivial ?_
  refine G.fix (d := 20) (v := .slice (some ⟨bl, 129 * i, none⟩) 64 64) (by show Value.slice (some ⟨bl, 0 + (i : Int).toNat * 129 + 0, none⟩) 64 64 = _; rw [show 0 + (i : Int).toNat * 129 + 0 = 129 * i by omega]) ?_
  refine G.call E43 rfl rfl trivial rfl rfl (clone_spec W0 _ ⟨bl, 129 * i, none⟩ 64 64 d.l[i].now hs.1.symm (by rw [hs.1]; decide) (Rd.row (.app .in1) (fun j hj => now_at hd.1 hi (by simpa [hs.1] using hj)))) rfl ?_
  rintro e L2 ⟨v, seg, hv, rfl, rfl⟩
  obtain ⟨a21, c21, rfl, hr21⟩ := hv.form
  refine G.assignS rfl trivial rfl rfl rfl ?_
  refine G.assignI rfl trivial rfl rfl rfl ?_
  refine G.nil ?_
  refine C.ret ?_
  -- end 
  exact ⟨rfl, _, Res.of (rs := [.tmp 4, .tmp 5]) rfl rfl, .slice a21 64 c21, seg, hv, rfl, rfl⟩
theorem read_out (i : Int) (hi : ¬ (0 ≤ i ∧ i < d.l.length)) : FnS Try.prog W0 37 #[ptr bd, .int .i64 i] (S ++ (devSeg bd bl d :: L0))
    (fun e L' => L' = S ++ (devSeg bd bl d :: L0) ∧ e = .returned (.tuple #[.slice none 0 0, .int .i64 3])) := by
  refine FnS.of (args := [ptr bd, .int .i64 i]) Try.func37 rfl rfl ?_
  refine C.seq ?_
  refine C.region ?_
  refine G.assignS rfl trivial rfl rfl rfl ?_
  refine G.assignI rfl trivial rfl rfl rfl ?_
  refine G.nil ?_
  refine C.seq ?_
  refine C.seq ?_
  refine C.region ?_
  refine G.moveP rfl trivial rfl rfl rfl ?_
  refine G.moveI rfl trivial rfl rfl rfl ?_
  refine G.call E44 rfl rfl trivial rfl rfl (at_spec W0 S L0 bd bl d i) rfl ?_
  rintro e L2 ⟨rfl, rfl⟩
  rw [atE_out hi]
  refine G.assignI rfl trivial rfl rfl rfl ?_
  refine G.nil ?_
  refine C.seq ?_
  refine C.region ?_
  refine G.moveI rfl trivial rfl rfl rfl ?_
  refine G.bin rfl trivial rfl rfl rfl rfl rfl ?_
  refine G.nil ?_
  refine C.yes rfl (by simp) ?_
  refine C.seq ?_
  refine C.region ?_
  refine G.moveI rfl trivial rfl rfl rfl ?_
  refine G.assignS rfl trivial rfl rfl rfl ?_
  refine G.assignI rfl trivial rfl rfl rfl ?_
  refine G.nil ?_
  refine C.ret ?_
  -- end 
  exact ⟨rfl, _, Res.of (rs := [.tmp 4, .tmp 5]) rfl rfl, rfl, rfl⟩
theorem read_nil (L : List Seg) (i : Int) : FnS Try.prog W0 37 #[.pointer none, .int .i64 i] L (fun e L' => L' = L ∧ e = .returned (.tuple #[.slice none 0 0, .int .i64 5])) := by
  refine FnS.of (args := [.pointer none, .int .i64 i]) Try.func37 rfl rfl ?_
  refine C.seq ?_
  refine C.region ?_
  refine G.assignS rfl trivial rfl rfl rfl ?_
  refine G.assignI rfl trivial rfl rfl rfl ?_
  refine G.nil ?_
  refine C.seq ?_
  refine C.seq ?_
  refine C.region ?_
  refine G.moveP rfl trivial rfl rfl rfl ?_
  refine G.moveI rfl trivial rfl rfl rfl ?_
  refine G.call E44 rfl rfl trivial rfl rfl (at_nil W0 _ i) rfl ?_
  rintro e L2 ⟨rfl, rfl⟩
  refine G.assignI rfl trivial rfl rfl rfl ?_
  refine G.nil ?_
  refine C.seq ?_
  refine C.region ?_
  refine G.moveI rfl trivial rfl rfl rfl ?_
  refine G.bin rfl trivial rfl rfl rfl rfl rfl ?_
  refine G.nil ?_
  refine C.yes rfl (by simp) ?_
  refine C.seq ?_
  refine C.region ?_
  refine G.moveI rfl trivial rfl rfl rfl ?_
  refine G.assignS rfl trivial rfl rfl rfl ?_
  refine G.assignI rfl trivial rfl rfl rfl ?_
  refine G.nil ?_
  refine C.ret ?_
  -- end 
  exact ⟨rfl, _, Res.of (rs := [.tmp 4, .tmp 5]) rfl rfl, rfl, rfl⟩
theorem set_modify {l : List Sec} {i : Nat} (hi : i < l.length) (g : Sec → Sec) : l.set i (g l[i]) = l.modify i g := by
  apply List.ext_getElem (by simp)
  intro j h1 h2
  rw [List.getElem_set, List.getElem_modify]
  by_cases e : i = j
  · subst e; simp
  · simp [e]
theorem write_ok (hd : d.ok) (hdead : d.isDead = false) (i : Nat) (hi : i < d.l.length) (a : Option Addr) (c : Nat) (b : List UInt8) (hb : b.length ≤ 64) (hr : Rd W0 (S ++ (devSeg bd bl d.burn :: L0)) a (bytesV b)) :
    FnS Try.prog W0 34 #[ptr bd, .int .i64 (i : Int), .slice a b.length c] (S ++ (devSeg bd bl d :: L0)) (fun e L' => L' = S ++ (devSeg bd bl (d.put i b) :: L0) ∧ e = .returned (.int .i64 0)) := by
  have hs := hd.1 _ (List.getElem_mem hi)
  have hlen := hd.2.1
  obtain ⟨s1, hs1⟩ : ∃ s1 : Sec, s1 = { d.l[i] with now := over b d.l[i].now } := ⟨_, rfl⟩
  have ok1 : s1.ok := by subst hs1; exact ⟨by show (over b d.l[i].now).length = 64; rw [over_length (by rw [hs.1]; exact hb)]; exact hs.1, hs.2⟩
  obtain ⟨s2, hs2⟩ : ∃ s2 : Sec, s2 = { s1 with loose := true } := ⟨_, rfl⟩
  have okl : ∀ s ∈ d.l.set i s1, s.ok := fun s hm => by
    rcases List.mem_or_eq_of_mem_set hm with h | h
    · exact hd.1 s h
    · exact h ▸ ok1
  have e2 : (d.l.set i s1).set i s2 = d.l.modify i (·.put b) := by
    rw [List.set_set, ← set_modify hi, hs2, hs1]
    rfl
  have eput : devSeg bd bl (d.put i b) = [(bd, .row (devRow bl d.burn) 57 5), (bl, .row (secsV ((d.l.set i s1).set i s2)) 79 (d.l.length * 129))] := by
    rw [e2]
    simp [Dv.put, Dv.burn]
  have hbl : (bytesV b).length = b.length := bytesV_length b
  have hsl := secsV_length hd.1
  have hsl2 := secsV_length okl
  have hmul : 129 * i + 129 ≤ 129 * d.l.length := by omega
  rw [List.length_set] at hsl2
  refine FnS.of (args := [ptr bd, .int .i64 (i : Int), .slice a b.length c]) Try.func34 rfl rfl ?_
  refine C.seq ?_
  refine C.region ?_
  refine G.assignI rfl trivial rfl rfl rfl ?_
  refine G.nil ?_
  refine C.seq ?_
  refine C.seq ?_
  refine C.region ?_
  refine G.moveP rfl trivial rfl rfl rfl ?_
  refine G.call E38 rfl rfl trivial rfl rfl (dead_spec W0 S L0 bd bl d) rfl ?_
  rintro e L2 ⟨rfl, rfl⟩
  rw [hdead]
  refine G.nil ?_
  refine C.condF rfl ?_
  refine C.skip ?_
  refine C.seq ?_
  refine C.seq ?_
  refine C.region ?_
  refine G.moveP rfl trivial rfl rfl rfl ?_
  refine G.moveI rfl trivial rfl rfl rfl ?_
  refine G.call E44 rfl rfl trivial rfl rfl (at_spec W0 S L0 bd bl d i) rfl ?_
  rintro e L2 ⟨rfl, rfl⟩
  rw [atE_in hi]
  refine G.assignI rfl trivial rfl rfl rfl ?_
  refine G.nil ?_
  refine C.seq ?_
  refine C.region ?_
  refine G.moveI rfl trivial rfl rfl rfl ?_
  refine G.bin rfl trivial rfl rfl rfl rfl rfl ?_
  refine G.nil ?_
  refine C.no rfl (by simp) ?_
  refine C.skip ?_
  refine C.seq ?_
  refine C.seq ?_
  refine C.region ?_
  refine G.moveS rfl trivial rfl rfl rfl ?_
  refine G.lenSlice rfl trivial rfl rfl Try.underlying34 rfl ?_
  refine G.bin rfl trivial rfl rfl rfl rfl rfl ?_
  refine G.nil ?_
  refine C.no rfl (by omega) ?_
  refine C.skip ?_
  refine C.seq ?_
  refine C.region ?_
  refine G.moveP rfl trivial rfl rfl rfl ?_
  refine G.call E45 rfl rfl trivial rfl rfl (burns_spec W0 S L0 bd bl d hd) rfl ?_
  rintro e L2 ⟨rfl, rfl⟩
  refine G.nil ?_
  refine C.seq ?_
  refine C.region ?_
  refine G.moveP rfl trivial rfl rfl rfl ?_
  first | refine G.nilCheckP rfl trivial rfl rfl rfl ?_ | refine G.nilCheckF rfl trivial rfl rfl rfl ?_
  refine G.fieldAddr rfl trivial rfl rfl Try.underlying57 rfl I55 rfl rfl ?_
  refine G.loadAt (by first | exact .here | exact .next .here | exact .next (.next .here) | exact .next (.next (.next .here)) | exact .next (.next (.next (.next .here))) | exact .next (.next (.next (.next (.next .here)))) | exact .next (.next (.next (.next (.next (.next .here))))) | exact .next (.next (.next (.next (.next (.next (.next .here)))))) | exact .in1 | exact .next .in1 | exact .next (.next .in1) | exact .next (.next (.next .in1)) | exact .next (.next (.next (.next .in1))) | exact .in2 | exact .next .in2 | exact .next (.next .in2) | exact .next (.next (.next .in2)) | exact .next (.next (.next (.next .in2))) | exact .app .here | exact .app (.next .here) | exact .app (.next (.next .here)) | exact .app (.next (.next (.next .here))) | exact .app (.next (.next (.next (.next .here)))) | exact .app (.next (.next (.next (.next (.next .here))))) | exact .app (.next (.next (.next (.next (.next (.next .here)))))) | exact .app (.next (.next (.next (.next (.next (.next (.next .here))))))) | exact .app .in1 | exact .app .in2 | exact .app (.next .in1) | exact .next (.app .in1) | exact .next (.next (.app .in1)) | exact .next (.app .here) | exact .next (.next (.app .here)) | exact .next (.next (.next (.app .here))) | exact .next (.next (.next (.next (.app .here))))) rfl trivial rfl rfl Try.underlying55 rfl rfl (by rfl) ?_
  refine G.moveI rfl trivial rfl rfl rfl ?_
  refine G.indexAddr rfl trivial rfl rfl Try.underlying55 I79 rfl rfl (by show _ ∧ (i : Int) < (d.l.length : Int); omega) ?_
  refine G.fieldAddr rfl trivial rfl rfl Try.underlying79 rfl I77 rfl rfl ?_
  refine G.sliceArr rfl trivial rfl rfl Try.underlying77 I5 rfl trivial ?_
  refine G.fix (d := 28) (v := .slice (some ⟨bl, 129 * i, none⟩) 64 64) (by show Value.slice (some ⟨bl, 0 + (i : Int).toNat * 129 + 0, none⟩) 64 64 = _; rw [show 0 + (i : Int).toNat * 129 + 0 = 129 * i by omega]) ?_
  refine G.moveS rfl trivial rfl rfl rfl ?_
  refine G.copyA (vs := bytesV b) (.app .in1) rfl trivial rfl rfl Try.underlying34 I5 rfl rfl (by decide) (by simp; omega) hr bytesV_ok (by rw [hbl]; show _ ≤ (secsV d.l).length; omega) (secsV (d.l.set i s1)) (by rw [hs1]; exact chunk_put (secs_chunk hd.1) (off := 0) (by rw [hbl]; omega) hi (cs_put hs hb)) ?_
  refine G.nil ?_
  refine C.seq ?_
  refine C.region ?_
  refine G.moveP rfl trivial rfl rfl rfl ?_
  first | refine G.nilCheckP rfl trivial rfl rfl rfl ?_ | refine G.nilCheckF rfl trivial rfl rfl rfl ?_
  refine G.fieldAddr rfl trivial rfl rfl Try.underlying57 rfl I55 rfl rfl ?_
  refine G.loadAt (by first | exact .here | exact .next .here | exact .next (.next .here) | exact .next (.next (.next .here)) | exact .next (.next (.next (.next .here))) | exact .next (.next (.next (.next (.next .here)))) | exact .next (.next (.next (.next (.next (.next .here))))) | exact .next (.next (.next (.next (.next (.next (.next .here)))))) | exact .in1 | exact .next .in1 | exact .next (.next .in1) | exact .next (.next (.next .in1)) | exact .next (.next (.next (.next .in1))) | exact .in2 | exact .next .in2 | exact .next (.next .in2) | exact .next (.next (.next .in2)) | exact .next (.next (.next (.next .in2))) | exact .app .here | exact .app (.next .here) | exact .app (.next (.next .here)) | exact .app (.next (.next (.next .here))) | exact .app (.next (.next (.next (.next .here)))) | exact .app (.next (.next (.next (.next (.next .here))))) | exact .app (.next (.next (.next (.next (.next (.next .here)))))) | exact .app (.next (.next (.next (.next (.next (.next (.next .here))))))) | exact .app .in1 | exact .app .in2 | exact .app (.next .in1) | exact .next (.app .in1) | exact .next (.next (.app .in1)) | exact .next (.app .here) | exact .next (.next (.app .here)) | exact .next (.next (.next (.app .here))) | exact .next (.next (.next (.next (.app .here))))) rfl trivial rfl rfl Try.underlying55 rfl rfl (by rfl) ?_
  refine G.moveI rfl trivial rfl rfl rfl ?_
  refine G.indexAddr rfl trivial rfl rfl Try.underlying55 I79 rfl rfl (by show _ ∧ (i : Int) < (d.l.length : Int); omega) ?_
  refine G.fieldAddr rfl trivial rfl rfl Try.underlying79 rfl I4 rfl rfl ?_
  refine G.fix (d := 37) (v := .pointer (some ⟨bl, 129 * i + 128, none⟩)) (by show Value.pointer (some ⟨bl, 0 + (i : Int).toNat * 129 + 128, none⟩) = _; rw [show 0 + (i : Int).toNat * 129 + 128 = 129 * i + 128 by omega]) ?_
  refine G.store (v := .bool true) (.app .in1) rfl trivial rfl I4 rfl rfl rfl (by omega) (secsV ((d.l.set i s1).set i s2)) (by rw [hs2]; refine chunk_set (secs_chunk okl) (by decide) (by simpa using hi) ?_; rw [List.getElem_set_self]; exact cs_setLoose ok1 true) ?_
  refine G.nil ?_
  refine C.seq ?_
  refine C.region ?_
  refine G.assignI rfl trivial rfl rfl rfl ?_
  refine G.nil ?_
  refine C.ret ?_
  -- end 
  exact ⟨rfl, _, Res.of (rs := [.tmp 6]) rfl rfl, by rw [eput]; rfl, rfl⟩
end dev
end Go.Proofs.Ytjfjmhmfhkdcbab
