/-
  The law AllocAll, walked.
-/
import Derived.Test.YtoegcjgdaikfiaaAl6
namespace Go.Proofs.Ytoegcjgdaikfiaa
open Go Go.SL Go.RowKit

theorem cnt_step (pb : List UInt8) : ∀ kk : Nat, countU pb (kk + 1 - 1) = countU pb (kk - 1) + if hasB pb ((kk : Int) - 1) = true then 1 else 0
  | 0 => by rw [has_out pb (by omega)]; rfl
  | k + 1 => by
    rw [show k + 1 + 1 - 1 = k + 1 by omega, show k + 1 - 1 = k by omega, show ((k + 1 : Nat) : Int) - 1 = (k : Int) by omega]
    exact countU_succ pb k
theorem boolsV_at {U : List Bool} {k : Nat} {x : Bool} (h : U[k]? = some x) : (U.map Value.bool)[k]? = some (.bool x) := by rw [List.getElem?_map, h]; rfl
theorem byte0 {pb : List UInt8} (h : pb.length = 256) : (bytesV pb)[0]? = some (.int .u8 ((pb[0]?.getD 0).toNat : Int)) := by
  rw [bytesV_at (by omega), List.getElem?_eq_getElem (by omega)]
  rfl
section laws
variable (W0 : World)
set_option maxHeartbeats 4000000 in
theorem all2_walk (b : UInt8) (a1 : Option Addr) (c1 : Nat) (ls : List (Int × Int)) (hm : ls.length ≤ 9223372036854775807) (r1 : ∀ L, Rd W0 L a1 (ls.flatMap fun o => [.int .i64 o.1, .int .i64 o.2])) :
    FnS Try.prog W0 3 #[.int .u8 (b.toNat : Int), .slice a1 ls.length c1] [] (fun e _ => e = .returned (.bool true)) := by
  refine FnS.of (args := [.int .u8 (b.toNat : Int), .slice a1 ls.length c1]) Try.func3 rfl rfl ?_
  refine C.seq ?_
  refine C.region ?_
  refine G.assignB rfl trivial rfl rfl rfl ?_
  refine G.nil ?_
  refine C.seq ?_
  refine C.region ?_
  refine G.call E8 rfl rfl trivial rfl rfl (beganA_spec W0 _) rfl ?_
  rintro e L2 ⟨rfl, rfl⟩
  refine G.assignB rfl trivial rfl rfl rfl ?_
  refine G.nil ?_
  refine C.seq ?_
  refine C.seq ?_
  refine C.region ?_
  refine G.moveB rfl trivial rfl rfl rfl ?_
  first | refine G.notD rfl trivial rfl rfl rfl ?_ | refine G.not rfl trivial rfl rfl rfl ?_
  refine G.nil ?_
  refine C.condF rfl ?_
  refine C.skip ?_
  refine C.seq ?_
  refine C.region ?_
  refine G.buildL (cs := bkRow none) rfl trivial rfl rfl Try.underlying28 I28 B28 rfl (by kernel_rfl) ?_
  refine G.boxG rfl trivial rfl rfl rfl ?_
  intro bb
  rw [bkRow_length]
  refine G.assignP rfl trivial rfl rfl rfl ?_
  refine G.nil ?_
  refine C.seq ?_
  refine C.region ?_
  refine G.makeBytes (l := 256) (c := 256) rfl trivial rfl rfl Try.underlying25 I5 rfl rfl (by decide) ?_
  intro b39
  refine G.assignS rfl trivial rfl rfl rfl ?_
  refine G.nil ?_
  refine C.seq ?_
  refine C.seq ?_
  refine C.region ?_
  refine G.assignI rfl trivial rfl rfl rfl ?_
  refine G.nil ?_
  refine C.block ?_
  refine C.loop (fun m F D' L' => ∃ i : Nat, 5 ≤ i ∧ i ≤ 256 ∧ m = 256 - i ∧ F 8 = .int .i64 i ∧ F 7 = .slice (some ⟨b39, 0, none⟩) 256 256 ∧ F 6 = ptr bb ∧ F 0 = .int .u8 (b.toNat : Int) ∧ F 1 = .slice a1 ls.length c1 ∧ D' = [] ∧ [(b39, .row (bytesV (fillP b i)) 5 256)] :: [(bb, .row (bkRow none) 28 97)] :: [] = L') ⟨_, ⟨5, by omega, by omega, rfl, rfl, rfl, rfl, rfl, rfl, rfl, by rw [← fillP_start]⟩⟩ ?_
  rintro m F D' L' ⟨i, hi5, hi, rfl, h8, h7, h6, h0', h1', rfl, rfl⟩
  refine C.fix (d := 8) h8 ?_
  refine C.fix (d := 7) h7 ?_
  refine C.fix (d := 6) h6 ?_
  refine C.fix (d := 0) h0' ?_
  refine C.fix (d := 1) h1' ?_
  refine C.seq ?_
  refine C.seq ?_
  refine C.region ?_
  refine G.moveI rfl trivial rfl rfl rfl ?_
  refine G.bin rfl trivial rfl rfl rfl rfl rfl ?_
  refine G.nil ?_
  refine C.cond _ rfl ?_ ?_
  · intro hc1
    refine C.skip ?_
    refine C.seq ?_
    refine C.block ?_
    refine C.region ?_
    refine G.moveS rfl trivial rfl rfl rfl ?_
    refine G.moveI rfl trivial rfl rfl rfl ?_
    refine G.moveI rfl trivial rfl rfl rfl ?_
    refine G.indexAddr rfl trivial rfl rfl Try.underlying25 I5 rfl rfl (by omega) ?_
    refine G.store (v := .int .u8 (b.toNat : Int)) .here rfl trivial rfl I5 rfl rfl rfl (by rw [bytesV_length, fillP_length b (by omega)]; omega) (bytesV (fillP b (i + 1))) (by rw [show 0 + (i : Int).toNat * 1 = i by simp, bytesV_set, fillP_step b (by omega)]) ?_
    refine G.nil ?_
    refine C.region ?_
    refine G.moveI rfl trivial rfl rfl rfl ?_
    refine G.add rfl trivial rfl rfl rfl rfl (by omega) ?_
    refine G.assignI rfl trivial rfl rfl rfl ?_
    refine G.nil ?_
    exact ⟨256 - (i + 1), by omega, i + 1, by omega, by omega, rfl, rfl, rfl, rfl, rfl, rfl, rfl, rfl⟩
  · intro hc1
    obtain rfl : i = 256 := by omega
    refine C.exit ?_
    refine C.seq ?_
    refine C.region ?_
    refine G.moveS rfl trivial rfl rfl rfl ?_
    refine G.moveI rfl trivial rfl rfl rfl ?_
    refine G.bin rfl trivial rfl rfl rfl rfl rfl ?_
    refine G.fix (d := 50) (v := .int .u8 ((and3 b).toNat : Int)) (and3_val b) ?_
    refine G.indexAddr rfl trivial rfl rfl Try.underlying25 I5 rfl rfl (by omega) ?_
    refine G.store (v := .int .u8 ((and3 b).toNat : Int)) .here rfl trivial rfl I5 rfl rfl rfl (by rw [bytesV_length, fillP_length b (by omega)]; decide) (bytesV (startP b)) ((bytesV_set _ 0 _).trans (by rw [fillP_end])) ?_
    refine G.nil ?_
    refine C.seq ?_
    refine C.region ?_
    refine G.moveP rfl trivial rfl rfl rfl ?_
    refine G.moveS rfl trivial rfl rfl rfl ?_
    first | refine G.nilCheckP rfl trivial rfl rfl rfl ?_ | refine G.nilCheckF rfl trivial rfl rfl rfl ?_
    refine G.fieldAddr rfl trivial rfl rfl Try.underlying28 rfl I26 rfl rfl ?_
    refine G.indexAddrArr rfl trivial rfl rfl Try.underlying26 I25 rfl rfl (by omega) ?_
    refine G.store (v := .slice _ _ _) (.next .here) rfl trivial rfl I25 rfl rfl rfl (by rw [bkRow_length]; decide) (bkRow (some (b39, startP b))) rfl ?_
    refine G.less (L' := bkSeg bb (some (b39, startP b)) :: []) (fun _ h => h.perm2.join) ?_
    refine G.nil ?_
    refine C.seq ?_
    refine C.region ?_
    refine G.moveP rfl trivial rfl rfl rfl ?_
    refine G.makeInterface rfl trivial rfl rfl Try.underlying24 rfl ?_
    refine G.call E9 rfl rfl trivial rfl rfl (snew_spec W0 [] bb (some (b39, startP b)) (startP_length b)) rfl ?_
    rintro e L2 ⟨bs, sg0, hsg0, rfl, rfl⟩
    have all0 := All.start b b39
    generalize bkPage (some (b39, startP b)) = p0 at *
    generalize (fun k => usedP (startP b) k) = u0 at *
    refine G.assignP rfl trivial rfl rfl rfl ?_
    refine G.nil ?_
    refine C.seq ?_
    refine C.region ?_
    refine G.allocC (cs := (List.replicate 32 false).map Value.bool) rfl trivial rfl rfl I31 (by kernel_rfl) ?_
    intro b10
    refine G.nil ?_
    refine C.seq ?_
    refine C.region ?_
    refine G.assignI rfl trivial rfl rfl rfl ?_
    refine G.nil ?_
    refine C.seq ?_
    refine C.seq ?_
    refine C.region ?_
    refine G.assignI rfl trivial rfl rfl rfl ?_
    refine G.nil ?_
    refine C.block ?_
    refine C.loop (fun m F D' L' => ∃ (i : Nat) (pg : Nat → List UInt8) (sg : Seg) (u : Nat → Bool) (r : Nat) (U : List Bool), i ≤ ls.length ∧ Sh (some (b39, startP b)) bs pg sg ∧ All pg u r U b ∧ m = ls.length - i ∧ F 12 = .int .i64 i ∧ F 11 = .int .i64 (r : Int) ∧ F 10 = ptr b10 ∧ F 9 = ptr bs ∧ F 7 = .slice (some ⟨b39, 0, none⟩) 256 256 ∧ F 0 = .int .u8 (b.toNat : Int) ∧ F 1 = .slice a1 ls.length c1 ∧ D' = [] ∧ [(b10, .row (U.map Value.bool) 31 32)] :: sg :: [] = L') ⟨_, ⟨0, p0, sg0, u0, 0, List.replicate 32 false, by omega, hsg0, all0, rfl, rfl, rfl, rfl, rfl, rfl, rfl, rfl, rfl, rfl⟩⟩ ?_
    rintro m F D' L' ⟨i, pg, sg, u, r, U, hi, hsg, hA, rfl, h12, h11, h10, h9, h7, h0', h1', rfl, rfl⟩
    refine C.fix (d := 12) h12 ?_
    refine C.fix (d := 11) h11 ?_
    refine C.fix (d := 10) h10 ?_
    refine C.fix (d := 9) h9 ?_
    refine C.fix (d := 7) h7 ?_
    refine C.fix (d := 0) h0' ?_
    refine C.fix (d := 1) h1' ?_
    refine C.seq ?_
    refine C.seq ?_
    refine C.region ?_
    refine G.moveI rfl trivial rfl rfl rfl ?_
    refine G.moveS rfl trivial rfl rfl rfl ?_
    refine G.lenSlice rfl trivial rfl rfl Try.underlying22 rfl ?_
    refine G.bin rfl trivial rfl rfl rfl rfl rfl ?_
    refine G.moveB rfl trivial rfl rfl rfl ?_
    refine G.fork (t := 64) _ rfl ?_ ?_
    · intro hg64
      refine G.moveI rfl ⟨_, rfl, rfl, rfl⟩ rfl rfl rfl ?_
      refine G.bin rfl ⟨_, rfl, rfl, rfl⟩ rfl rfl rfl rfl rfl ?_
      first | refine G.pickT rfl trivial rfl rfl rfl rfl ?_ | refine G.pickF rfl trivial rfl rfl rfl rfl ?_
      refine G.nil ?_
      refine C.cond _ rfl ?_ ?_
      · intro hc2
        have hlt : i < ls.length := by omega
        obtain ⟨p1, o1, rfl, _⟩ := (r1 []).some_ (by rw [chunk_length (k := 2) (fun _ _ => rfl)]; omega)
        refine C.skip ?_
        refine C.seq ?_
        refine C.block ?_
        refine C.seq ?_
        refine C.region ?_
        refine G.moveS rfl trivial rfl rfl rfl ?_
        refine G.moveI rfl trivial rfl rfl rfl ?_
        refine G.indexAddr rfl trivial rfl rfl Try.underlying22 I33 rfl rfl (by omega) ?_
        refine G.loadAgg [.int .i64 ls[i].1, .int .i64 ls[i].2] rfl trivial rfl rfl Try.underlying33 rfl I33 rfl rfl (fun w hm => Rd.chunk_at r1 (fun _ _ => rfl) hlt w hm) ?_
        generalize ls[i] = op
        obtain ⟨kd, no⟩ := op
        simp only
        refine G.allocC (cs := [(.int .i64 0), (.int .i64 0)]) rfl trivial rfl rfl I33 rfl ?_
        intro b13
        refine G.storeS (by first | exact .here | exact .next .here | exact .next (.next .here) | exact .next (.next (.next .here)) | exact .next (.next (.next (.next .here))) | exact .next (.next (.next (.next (.next .here)))) | exact .next (.next (.next (.next (.next (.next .here))))) | exact .next (.next (.next (.next (.next (.next (.next .here)))))) | exact .in1 | exact .next .in1 | exact .next (.next .in1) | exact .next (.next (.next .in1)) | exact .next (.next (.next (.next .in1))) | exact .in2 | exact .next .in2 | exact .next (.next .in2) | exact .next (.next (.next .in2)) | exact .next (.next (.next (.next .in2))) | exact .app .here | exact .app (.next .here) | exact .app (.next (.next .here)) | exact .app (.next (.next (.next .here))) | exact .app (.next (.next (.next (.next .here)))) | exact .app (.next (.next (.next (.next (.next .here))))) | exact .app (.next (.next (.next (.next (.next (.next .here)))))) | exact .app (.next (.next (.next (.next (.next (.next (.next .here))))))) | exact .app .in1 | exact .app .in2 | exact .app (.next .in1) | exact .next (.app .in1) | exact .next (.next (.app .in1)) | exact .next (.app .here) | exact .next (.next (.app .here)) | exact .next (.next (.next (.app .here))) | exact .next (.next (.next (.next (.app .here))))) rfl trivial rfl I33 rfl rfl rfl (by simp [cellsOk]) (by first | decide | simp) _ rfl ?_
        refine G.nil ?_
        refine C.seq ?_
        refine C.seq ?_
        refine C.region ?_
        refine G.fieldAddr rfl trivial rfl rfl Try.underlying33 rfl I3 rfl rfl ?_
        refine G.loadAt (by first | exact .here | exact .next .here | exact .next (.next .here) | exact .next (.next (.next .here)) | exact .next (.next (.next (.next .here))) | exact .next (.next (.next (.next (.next .here)))) | exact .next (.next (.next (.next (.next (.next .here))))) | exact .next (.next (.next (.next (.next (.next (.next .here)))))) | exact .in1 | exact .next .in1 | exact .next (.next .in1) | exact .next (.next (.next .in1)) | exact .next (.next (.next (.next .in1))) | exact .in2 | exact .next .in2 | exact .next (.next .in2) | exact .next (.next (.next .in2)) | exact .next (.next (.next (.next .in2))) | exact .app .here | exact .app (.next .here) | exact .app (.next (.next .here)) | exact .app (.next (.next (.next .here))) | exact .app (.next (.next (.next (.next .here)))) | exact .app (.next (.next (.next (.next (.next .here))))) | exact .app (.next (.next (.next (.next (.next (.next .here)))))) | exact .app (.next (.next (.next (.next (.next (.next (.next .here))))))) | exact .app .in1 | exact .app .in2 | exact .app (.next .in1) | exact .next (.app .in1) | exact .next (.next (.app .in1)) | exact .next (.app .here) | exact .next (.next (.app .here)) | exact .next (.next (.next (.app .here))) | exact .next (.next (.next (.next (.app .here))))) rfl trivial rfl rfl Try.underlying3 rfl rfl (by rfl) ?_
        refine G.nil ?_
        refine C.block ?_
        refine C.seq ?_
        refine C.region ?_
        refine G.bin rfl trivial rfl rfl rfl rfl rfl ?_
        refine G.assignB rfl trivial rfl rfl rfl ?_
        refine G.nil ?_
        refine C.cond _ rfl ?_ ?_
        · intro hc3
          refine C.seq ?_
          refine C.region ?_
          refine G.assignI rfl trivial rfl rfl rfl ?_
          refine G.nil ?_
          refine C.seq ?_
          refine C.seq ?_
          refine C.region ?_
          refine G.assignI rfl trivial rfl rfl rfl ?_
          refine G.nil ?_
          refine C.block ?_
          refine C.loop (fun m F D' L' => ∃ k w : Nat, 1 ≤ k ∧ k ≤ 31 ∧ Least U k w ∧ m = k - 1 ∧ F 15 = .int .i64 (k : Int) ∧ F 14 = .int .i64 (w : Int) ∧ F 13 = ptr b13 ∧ F 12 = .int .i64 i ∧ F 11 = .int .i64 (r : Int) ∧ F 10 = ptr b10 ∧ F 9 = ptr bs ∧ F 7 = .slice (some ⟨b39, 0, none⟩) 256 256 ∧ F 0 = .int .u8 (b.toNat : Int) ∧ F 1 = .slice (some ⟨p1, o1, none⟩) ls.length c1 ∧ D' = [] ∧ [(b13, .row [.int .i64 kd, .int .i64 no] 33 2)] :: [(b10, .row (U.map Value.bool) 31 32)] :: sg :: [] = L') ⟨_, ⟨31, 0, by omega, by omega, .inl ⟨rfl, fun j h1 h2 => by omega⟩, rfl, rfl, rfl, rfl, rfl, rfl, rfl, rfl, rfl, rfl, rfl, rfl, rfl⟩⟩ ?_
          rintro m F D' L' ⟨k, w, hk1, hk31, hle, rfl, h15, h14, h13, h12, h11, h10, h9, h7, h0', h1', rfl, rfl⟩
          refine C.fix (d := 15) h15 ?_
          refine C.fix (d := 14) h14 ?_
          refine C.fix (d := 13) h13 ?_
          refine C.fix (d := 12) h12 ?_
          refine C.fix (d := 11) h11 ?_
          refine C.fix (d := 10) h10 ?_
          refine C.fix (d := 9) h9 ?_
          refine C.fix (d := 7) h7 ?_
          refine C.fix (d := 0) h0' ?_
          refine C.fix (d := 1) h1' ?_
          refine C.seq ?_
          refine C.seq ?_
          refine C.region ?_
          refine G.moveI rfl trivial rfl rfl rfl ?_
          refine G.bin rfl trivial rfl rfl rfl rfl rfl ?_
          refine G.nil ?_
          refine C.cond _ rfl ?_ ?_
          · intro hc4
            obtain ⟨q, rfl⟩ : ∃ q, k = q + 1 := ⟨k - 1, by omega⟩
            have hxk := hA.eq (q + 1) (by omega) (by omega)
            have hstep := hle.step hxk (by omega)
            refine C.skip ?_
            refine C.seq ?_
            refine C.block ?_
            refine C.seq ?_
            refine C.region ?_
            refine G.moveI rfl trivial rfl rfl rfl ?_
            refine G.indexAddrArr rfl trivial rfl rfl Try.underlying31 I4 rfl rfl (by omega) ?_
            refine G.loadAt (v := .bool (u (q + 1))) (.next .here) rfl trivial rfl rfl Try.underlying4 rfl rfl (by rw [show 0 + ((q + 1 : Nat) : Int).toNat * 1 = q + 1 by simp]; exact boolsV_at hxk) ?_
            refine G.not rfl trivial rfl rfl rfl ?_
            refine G.nil ?_
            refine C.condB _ rfl ?_ ?_
            · intro hc5
              refine C.region ?_
              refine G.moveI rfl trivial rfl rfl rfl ?_
              refine G.assignI rfl trivial rfl rfl rfl ?_
              refine G.nil ?_
              refine C.region ?_
              refine G.moveI rfl trivial rfl rfl rfl ?_
              refine G.sub rfl trivial rfl rfl rfl rfl (by omega) ?_
              refine G.fix (d := 104) (v := .int .i64 (q : Int)) (by show Value.int .i64 _ = _; congr 1; omega) ?_
              refine G.assignI rfl trivial rfl rfl rfl ?_
              refine G.nil ?_
              rw [if_neg (by rw [Bool.not_eq_true'] at hc5; rw [hc5]; simp)] at hstep
              exact ⟨q - 1, by omega, q, q + 1, by omega, by omega, hstep, rfl, rfl, rfl, rfl, rfl, rfl, rfl, rfl, rfl, rfl, rfl, rfl, rfl⟩
            · intro hc5
              refine C.skip ?_
              refine C.region ?_
              refine G.moveI rfl trivial rfl rfl rfl ?_
              refine G.sub rfl trivial rfl rfl rfl rfl (by omega) ?_
              refine G.fix (d := 104) (v := .int .i64 (q : Int)) (by show Value.int .i64 _ = _; congr 1; omega) ?_
              refine G.assignI rfl trivial rfl rfl rfl ?_
              refine G.nil ?_
              rw [if_pos (by simpa using hc5)] at hstep
              exact ⟨q - 1, by omega, q, w, by omega, by omega, hstep, rfl, rfl, rfl, rfl, rfl, rfl, rfl, rfl, rfl, rfl, rfl, rfl, rfl⟩
          · intro hc4
            obtain rfl : k = 1 := by omega
            have hu : ∀ j x, 2 ≤ j → j < 32 → U[j]? = some x → usedP (pg 1) j = x := fun j x h1 h2 h3 => by
              have h4 := hA.eq j h1 h2
              rw [h4] at h3
              rw [hA.us.used j h2]
              exact Option.some.inj h3
            refine C.exit ?_
            refine C.seq ?_
            refine C.region ?_
            refine G.moveP rfl trivial rfl rfl rfl ?_
            by_cases hw : w = 0
            ·
              subst hw
              have hall : ∀ j, 2 ≤ j → j < 32 → usedP (pg 1) j = true := fun j h1 h2 => by
                rcases hle with ⟨_, h⟩ | ⟨h, _⟩
                · exact hu j true h1 h2 (h j (by omega) h2)
                · omega
              refine G.call E10 rfl rfl trivial rfl rfl (take_full W0 [_, _] [] bs pg sg hsg hA.us.len hall) rfl ?_
              rintro e L2 ⟨rfl, rfl⟩
              refine G.moveU rfl trivial rfl rfl rfl ?_
              refine G.extractL rfl trivial rfl rfl rfl rfl ?_
              refine G.extractL rfl trivial rfl rfl rfl rfl ?_
              refine G.assignI rfl trivial rfl rfl rfl ?_
              refine G.assignI rfl trivial rfl rfl rfl ?_
              refine G.nil ?_
              refine C.seq ?_
              refine C.seq ?_
              refine C.region ?_
              refine G.moveI rfl trivial rfl rfl rfl ?_
              refine G.bin rfl trivial rfl rfl rfl rfl rfl ?_
              refine G.no (t := 116) rfl (by decide) ?_
              refine G.moveI rfl trivial rfl rfl rfl ?_
              refine G.bin rfl trivial rfl rfl rfl rfl rfl ?_
              refine G.no (t := 118) rfl (by omega) ?_
              refine G.boolNe rfl trivial rfl rfl Try.underlying4 rfl rfl ?_
              refine G.moveB rfl trivial rfl rfl rfl ?_
              refine G.moveI rfl ⟨_, rfl, rfl, rfl⟩ rfl rfl rfl ?_
              refine G.moveI rfl ⟨_, rfl, rfl, rfl⟩ rfl rfl rfl ?_
              refine G.bin rfl ⟨_, rfl, rfl, rfl⟩ rfl rfl rfl rfl rfl ?_
              refine G.no (t := 123) rfl (by simp) ?_
              first | refine G.pickT rfl trivial rfl rfl rfl rfl ?_ | refine G.pickF rfl trivial rfl rfl rfl rfl ?_
              refine G.moveB rfl trivial rfl rfl rfl ?_
              refine G.moveI rfl ⟨_, rfl, rfl, rfl⟩ rfl rfl rfl ?_
              refine G.bin rfl ⟨_, rfl, rfl, rfl⟩ rfl rfl rfl rfl rfl ?_
              refine G.yes (t := 127) rfl (by decide) ?_
              refine G.moveB rfl ⟨_, rfl, rfl, rfl⟩ rfl rfl rfl ?_
              refine G.moveI rfl ⟨_, rfl, rfl, rfl⟩ rfl rfl rfl ?_
              refine G.bin rfl ⟨_, rfl, rfl, rfl⟩ rfl rfl rfl rfl rfl ?_
              refine G.no (t := 130) rfl (by decide) ?_
              first | refine G.pickT rfl ⟨_, rfl, rfl, rfl⟩ rfl rfl rfl rfl ?_ | refine G.pickF rfl ⟨_, rfl, rfl, rfl⟩ rfl rfl rfl rfl ?_
              first | refine G.pickT rfl trivial rfl rfl rfl rfl ?_ | refine G.pickF rfl trivial rfl rfl rfl rfl ?_
              refine G.nil ?_
              refine C.condF rfl ?_
              refine C.skip ?_
              refine C.seq ?_
              refine C.region ?_
              refine G.moveI rfl trivial rfl rfl rfl ?_
              refine G.bin rfl trivial rfl rfl rfl rfl rfl ?_
              refine G.nil ?_
              refine C.no rfl (by omega) ?_
              refine C.skip ?_
              refine C.seq ?_
              refine C.region ?_
              obtain ⟨rr, hrr⟩ : ∃ rr : Nat, rr = r := ⟨_, rfl⟩
              rw [← hrr] at hA
              refine G.fix (d := 11) (v := .int .i64 (rr : Int)) (by show Value.int .i64 (r : Int) = _; rw [hrr]) ?_
              refine G.assignI rfl trivial rfl rfl rfl ?_
              refine G.less (fun _ h => h.tail) ?_
              refine G.nil ?_
              refine C.seq ?_
              refine C.seq ?_
              refine C.region ?_
              refine G.assignI rfl trivial rfl rfl rfl ?_
              refine G.nil ?_
              refine C.block ?_
              refine C.loop (fun m F D' L' => ∃ kk : Nat, kk ≤ 35 ∧ m = 35 - kk ∧ F 24 = .int .i64 ((kk : Int) - 1) ∧ F 23 = .int .i64 (countU (pg 1) (kk - 1) : Nat) ∧ F 12 = .int .i64 i ∧ F 11 = .int .i64 (rr : Int) ∧ F 10 = ptr b10 ∧ F 9 = ptr bs ∧ F 7 = .slice (some ⟨b39, 0, none⟩) 256 256 ∧ F 0 = .int .u8 (b.toNat : Int) ∧ F 1 = .slice (some ⟨p1, o1, none⟩) ls.length c1 ∧ D' = [] ∧ [(b10, .row (U.map Value.bool) 31 32)] :: sg :: [] = L') ⟨_, ⟨0, by omega, rfl, rfl, rfl, rfl, rfl, rfl, rfl, rfl, rfl, rfl, rfl, rfl⟩⟩ ?_
              rintro m F D' L' ⟨kk, hkk, rfl, h24, h23, h12, h11, h10, h9, h7, h0', h1', rfl, rfl⟩
              refine C.fix (d := 24) h24 ?_
              refine C.fix (d := 23) h23 ?_
              refine C.fix (d := 12) h12 ?_
              refine C.fix (d := 11) h11 ?_
              refine C.fix (d := 10) h10 ?_
              refine C.fix (d := 9) h9 ?_
              refine C.fix (d := 7) h7 ?_
              refine C.fix (d := 0) h0' ?_
              refine C.fix (d := 1) h1' ?_
              refine C.seq ?_
              refine C.seq ?_
              refine C.region ?_
              refine G.moveI rfl trivial rfl rfl rfl ?_
              refine G.bin rfl trivial rfl rfl rfl rfl rfl ?_
              refine G.nil ?_
              refine C.cond _ rfl ?_ ?_
              · intro hc14
                have hcs := cnt_step (pg 1) kk
                have hcl := countU_le (pg 1) (kk - 1)
                refine C.skip ?_
                refine C.seq ?_
                refine C.block ?_
                refine C.seq ?_
                refine C.region ?_
                refine G.moveI rfl trivial rfl rfl rfl ?_
                refine G.bin rfl trivial rfl rfl rfl rfl rfl ?_
                refine G.moveB rfl trivial rfl rfl rfl ?_
                refine G.fork (t := 190) _ rfl ?_ ?_
                · intro hg190
                  refine G.moveI rfl ⟨_, rfl, rfl, rfl⟩ rfl rfl rfl ?_
                  refine G.bin rfl ⟨_, rfl, rfl, rfl⟩ rfl rfl rfl rfl rfl ?_
                  first | refine G.pickT rfl trivial rfl rfl rfl rfl ?_ | refine G.pickF rfl trivial rfl rfl rfl rfl ?_
                  refine G.moveB rfl trivial rfl rfl rfl ?_
                  refine G.fork (t := 194) _ rfl ?_ ?_
                  · intro hg194
                    refine G.moveI rfl ⟨_, rfl, rfl, rfl⟩ rfl rfl rfl ?_
                    obtain ⟨ux, hux, hhas⟩ := hA.has (k := (kk : Int) - 1) (by omega)
                    refine G.indexAddrArr rfl ⟨_, rfl, rfl, rfl⟩ rfl rfl Try.underlying31 I4 rfl rfl (by omega) ?_
                    refine G.loadAt (v := .bool ux) .here rfl ⟨_, rfl, rfl, rfl⟩ rfl rfl Try.underlying4 rfl rfl (by rw [show 0 + ((kk : Int) - 1).toNat * 1 = ((kk : Int) - 1).toNat by omega]; exact boolsV_at hux) ?_
                    first | refine G.pickT rfl trivial rfl rfl rfl rfl ?_ | refine G.pickF rfl trivial rfl rfl rfl rfl ?_
                    refine G.assignB rfl trivial rfl rfl rfl ?_
                    refine G.nil ?_
                    refine C.seq ?_
                    refine C.region ?_
                    refine G.moveP rfl trivial rfl rfl rfl ?_
                    refine G.makeInterface rfl trivial rfl rfl Try.underlying29 rfl ?_
                    refine G.moveI rfl trivial rfl rfl rfl ?_
                    refine G.call E15 rfl rfl trivial rfl rfl (used_spec W0 _ _ _ _ hA.us.len (aread_sheet W0 [_] [] bs pg sg hsg) ((kk : Int) - 1)) rfl ?_
                    rintro e L2 ⟨rfl, rfl⟩
                    rw [hhas] at hcs ⊢
                    refine G.moveU rfl trivial rfl rfl rfl ?_
                    refine G.extractL rfl trivial rfl rfl rfl rfl ?_
                    refine G.extractL rfl trivial rfl rfl rfl rfl ?_
                    refine G.assignB rfl trivial rfl rfl rfl ?_
                    refine G.assignI rfl trivial rfl rfl rfl ?_
                    refine G.nil ?_
                    refine C.seq ?_
                    refine C.seq ?_
                    refine C.region ?_
                    refine G.moveB rfl trivial rfl rfl rfl ?_
                    refine G.moveB rfl trivial rfl rfl rfl ?_
                    refine G.boolNe rfl trivial rfl rfl Try.underlying4 rfl rfl ?_
                    refine G.fix (d := 208) (v := .bool false) (by show Value.bool (ux != ux) = _; cases ux <;> rfl) ?_
                    refine G.moveB rfl trivial rfl rfl rfl ?_
                    refine G.moveI rfl ⟨_, rfl, rfl, rfl⟩ rfl rfl rfl ?_
                    refine G.bin rfl ⟨_, rfl, rfl, rfl⟩ rfl rfl rfl rfl rfl ?_
                    refine G.no (t := 211) rfl (by simp) ?_
                    first | refine G.pickT rfl trivial rfl rfl rfl rfl ?_ | refine G.pickF rfl trivial rfl rfl rfl rfl ?_
                    refine G.nil ?_
                    refine C.condF rfl ?_
                    refine C.skip ?_
                    refine C.seq ?_
                    refine C.region ?_
                    refine G.moveB rfl trivial rfl rfl rfl ?_
                    refine G.nil ?_
                    refine C.condB _ rfl ?_ ?_
                    · intro hc16
                      refine C.region ?_
                      refine G.moveI rfl trivial rfl rfl rfl ?_
                      refine G.add rfl trivial rfl rfl rfl rfl (by omega) ?_
                      refine G.assignI rfl trivial rfl rfl rfl ?_
                      refine G.nil ?_
                      refine C.region ?_
                      refine G.moveI rfl trivial rfl rfl rfl ?_
                      refine G.add rfl trivial rfl rfl rfl rfl (by omega) ?_
                      refine G.assignI rfl trivial rfl rfl rfl ?_
                      refine G.nil ?_
                      exact ⟨35 - (kk + 1), by omega, kk + 1, by omega, rfl, (by show Value.int .i64 _ = _; congr 1; omega), (by show Value.int .i64 (((countU (pg 1) (kk - 1) : Nat) : Int) + 1) = Value.int .i64 ((countU (pg 1) (kk + 1 - 1) : Nat) : Int); rw [hcs, hc16]; rfl), rfl, rfl, rfl, rfl, rfl, rfl, rfl, rfl, rfl⟩
                    · intro hc16
                      refine C.skip ?_
                      refine C.region ?_
                      refine G.moveI rfl trivial rfl rfl rfl ?_
                      refine G.add rfl trivial rfl rfl rfl rfl (by omega) ?_
                      refine G.assignI rfl trivial rfl rfl rfl ?_
                      refine G.nil ?_
                      exact ⟨35 - (kk + 1), by omega, kk + 1, by omega, rfl, (by show Value.int .i64 _ = _; congr 1; omega), (by show Value.int .i64 ((countU (pg 1) (kk - 1) : Nat) : Int) = Value.int .i64 ((countU (pg 1) (kk + 1 - 1) : Nat) : Int); rw [hcs, hc16]; rfl), rfl, rfl, rfl, rfl, rfl, rfl, rfl, rfl, rfl⟩
                  · intro hg194
                    refine G.skip rfl rfl rfl rfl rfl rfl ?_
                    refine G.skip rfl rfl rfl rfl rfl rfl ?_
                    refine G.skip rfl rfl rfl rfl rfl rfl ?_
                    first | refine G.pickT rfl trivial rfl rfl rfl rfl ?_ | refine G.pickF rfl trivial rfl rfl rfl rfl ?_
                    refine G.assignB rfl trivial rfl rfl rfl ?_
                    refine G.nil ?_
                    refine C.seq ?_
                    refine C.region ?_
                    refine G.moveP rfl trivial rfl rfl rfl ?_
                    refine G.makeInterface rfl trivial rfl rfl Try.underlying29 rfl ?_
                    refine G.moveI rfl trivial rfl rfl rfl ?_
                    refine G.call E15 rfl rfl trivial rfl rfl (used_spec W0 _ _ _ _ hA.us.len (aread_sheet W0 [_] [] bs pg sg hsg) ((kk : Int) - 1)) rfl ?_
                    rintro e L2 ⟨rfl, rfl⟩
                    have hhas := has_out (pg 1) (k := (kk : Int) - 1) (by omega)
                    rw [hhas] at hcs ⊢
                    refine G.moveU rfl trivial rfl rfl rfl ?_
                    refine G.extractL rfl trivial rfl rfl rfl rfl ?_
                    refine G.extractL rfl trivial rfl rfl rfl rfl ?_
                    refine G.assignB rfl trivial rfl rfl rfl ?_
                    refine G.assignI rfl trivial rfl rfl rfl ?_
                    refine G.nil ?_
                    refine C.seq ?_
                    refine C.seq ?_
                    refine C.region ?_
                    refine G.moveB rfl trivial rfl rfl rfl ?_
                    refine G.moveB rfl trivial rfl rfl rfl ?_
                    refine G.boolNe rfl trivial rfl rfl Try.underlying4 rfl rfl ?_
                    refine G.fix (d := 208) (v := .bool false) (rfl) ?_
                    refine G.moveB rfl trivial rfl rfl rfl ?_
                    refine G.moveI rfl ⟨_, rfl, rfl, rfl⟩ rfl rfl rfl ?_
                    refine G.bin rfl ⟨_, rfl, rfl, rfl⟩ rfl rfl rfl rfl rfl ?_
                    refine G.no (t := 211) rfl (by simp) ?_
                    first | refine G.pickT rfl trivial rfl rfl rfl rfl ?_ | refine G.pickF rfl trivial rfl rfl rfl rfl ?_
                    refine G.nil ?_
                    refine C.condF rfl ?_
                    refine C.skip ?_
                    refine C.seq ?_
                    refine C.region ?_
                    refine G.moveB rfl trivial rfl rfl rfl ?_
                    refine G.nil ?_
                    refine C.condF rfl ?_
                    refine C.skip ?_
                    refine C.region ?_
                    refine G.moveI rfl trivial rfl rfl rfl ?_
                    refine G.add rfl trivial rfl rfl rfl rfl (by omega) ?_
                    refine G.assignI rfl trivial rfl rfl rfl ?_
                    refine G.nil ?_
                    exact ⟨35 - (kk + 1), by omega, kk + 1, by omega, rfl, (by show Value.int .i64 _ = _; congr 1; omega), (by show Value.int .i64 ((countU (pg 1) (kk - 1) : Nat) : Int) = Value.int .i64 ((countU (pg 1) (kk + 1 - 1) : Nat) : Int); rw [hcs]; rfl), rfl, rfl, rfl, rfl, rfl, rfl, rfl, rfl, rfl⟩
                · intro hg190
                  refine G.skip rfl rfl rfl rfl rfl rfl ?_
                  refine G.skip rfl rfl rfl rfl rfl rfl ?_
                  first | refine G.pickT rfl trivial rfl rfl rfl rfl ?_ | refine G.pickF rfl trivial rfl rfl rfl rfl ?_
                  refine G.moveB rfl trivial rfl rfl rfl ?_
                  refine G.skip rfl rfl rfl rfl rfl rfl ?_
                  refine G.skip rfl rfl rfl rfl rfl rfl ?_
                  refine G.skip rfl rfl rfl rfl rfl rfl ?_
                  first | refine G.pickT rfl trivial rfl rfl rfl rfl ?_ | refine G.pickF rfl trivial rfl rfl rfl rfl ?_
                  refine G.assignB rfl trivial rfl rfl rfl ?_
                  refine G.nil ?_
                  refine C.seq ?_
                  refine C.region ?_
                  refine G.moveP rfl trivial rfl rfl rfl ?_
                  refine G.makeInterface rfl trivial rfl rfl Try.underlying29 rfl ?_
                  refine G.moveI rfl trivial rfl rfl rfl ?_
                  refine G.call E15 rfl rfl trivial rfl rfl (used_spec W0 _ _ _ _ hA.us.len (aread_sheet W0 [_] [] bs pg sg hsg) ((kk : Int) - 1)) rfl ?_
                  rintro e L2 ⟨rfl, rfl⟩
                  have hhas := has_out (pg 1) (k := (kk : Int) - 1) (by omega)
                  rw [hhas] at hcs ⊢
                  refine G.moveU rfl trivial rfl rfl rfl ?_
                  refine G.extractL rfl trivial rfl rfl rfl rfl ?_
                  refine G.extractL rfl trivial rfl rfl rfl rfl ?_
                  refine G.assignB rfl trivial rfl rfl rfl ?_
                  refine G.assignI rfl trivial rfl rfl rfl ?_
                  refine G.nil ?_
                  refine C.seq ?_
                  refine C.seq ?_
                  refine C.region ?_
                  refine G.moveB rfl trivial rfl rfl rfl ?_
                  refine G.moveB rfl trivial rfl rfl rfl ?_
                  refine G.boolNe rfl trivial rfl rfl Try.underlying4 rfl rfl ?_
                  refine G.fix (d := 208) (v := .bool false) (rfl) ?_
                  refine G.moveB rfl trivial rfl rfl rfl ?_
                  refine G.moveI rfl ⟨_, rfl, rfl, rfl⟩ rfl rfl rfl ?_
                  refine G.bin rfl ⟨_, rfl, rfl, rfl⟩ rfl rfl rfl rfl rfl ?_
                  refine G.no (t := 211) rfl (by simp) ?_
                  first | refine G.pickT rfl trivial rfl rfl rfl rfl ?_ | refine G.pickF rfl trivial rfl rfl rfl rfl ?_
                  refine G.nil ?_
                  refine C.condF rfl ?_
                  refine C.skip ?_
                  refine C.seq ?_
                  refine C.region ?_
                  refine G.moveB rfl trivial rfl rfl rfl ?_
                  refine G.nil ?_
                  refine C.condF rfl ?_
                  refine C.skip ?_
                  refine C.region ?_
                  refine G.moveI rfl trivial rfl rfl rfl ?_
                  refine G.add rfl trivial rfl rfl rfl rfl (by omega) ?_
                  refine G.assignI rfl trivial rfl rfl rfl ?_
                  refine G.nil ?_
                  exact ⟨35 - (kk + 1), by omega, kk + 1, by omega, rfl, (by show Value.int .i64 _ = _; congr 1; omega), (by show Value.int .i64 ((countU (pg 1) (kk - 1) : Nat) : Int) = Value.int .i64 ((countU (pg 1) (kk + 1 - 1) : Nat) : Int); rw [hcs]; rfl), rfl, rfl, rfl, rfl, rfl, rfl, rfl, rfl, rfl⟩
              · intro hc14
                obtain rfl : kk = 35 := by omega
                refine C.exit ?_
                refine C.seq ?_
                refine C.region ?_
                refine G.moveP rfl trivial rfl rfl rfl ?_
                refine G.makeInterface rfl trivial rfl rfl Try.underlying29 rfl ?_
                refine G.call E16 rfl rfl trivial rfl rfl (count_spec W0 _ _ _ _ hA.us.len (aread_sheet W0 [_] [] bs pg sg hsg)) rfl ?_
                rintro e L2 ⟨rfl, rfl⟩
                rw [← countU_end]
                refine G.moveU rfl trivial rfl rfl rfl ?_
                refine G.extractL rfl trivial rfl rfl rfl rfl ?_
                refine G.extractL rfl trivial rfl rfl rfl rfl ?_
                refine G.assignI rfl trivial rfl rfl rfl ?_
                refine G.assignI rfl trivial rfl rfl rfl ?_
                refine G.nil ?_
                refine C.seq ?_
                refine C.region ?_
                refine G.moveP rfl trivial rfl rfl rfl ?_
                refine G.makeInterface rfl trivial rfl rfl Try.underlying29 rfl ?_
                refine G.call E17 rfl rfl trivial rfl rfl (root_spec W0 _ _ _ _ hA.us.len (aread_sheet W0 [_] [] bs pg sg hsg)) rfl ?_
                rintro e L2 ⟨rfl, rfl⟩
                rw [hA.us.root, if_pos hA.root]
                refine G.moveU rfl trivial rfl rfl rfl ?_
                refine G.extractL rfl trivial rfl rfl rfl rfl ?_
                refine G.extractL rfl trivial rfl rfl rfl rfl ?_
                refine G.assignI rfl trivial rfl rfl rfl ?_
                refine G.assignI rfl trivial rfl rfl rfl ?_
                refine G.nil ?_
                refine C.seq ?_
                refine C.region ?_
                refine G.moveI rfl trivial rfl rfl rfl ?_
                refine G.moveI rfl trivial rfl rfl rfl ?_
                refine G.bin rfl trivial rfl rfl rfl rfl rfl ?_
                refine G.no (t := 230) rfl (by simp) ?_
                refine G.moveB rfl trivial rfl rfl rfl ?_
                refine G.moveI rfl ⟨_, rfl, rfl, rfl⟩ rfl rfl rfl ?_
                refine G.bin rfl ⟨_, rfl, rfl, rfl⟩ rfl rfl rfl rfl rfl ?_
                refine G.no (t := 233) rfl (by simp) ?_
                first | refine G.pickT rfl trivial rfl rfl rfl rfl ?_ | refine G.pickF rfl trivial rfl rfl rfl rfl ?_
                refine G.moveB rfl trivial rfl rfl rfl ?_
                refine G.moveI rfl ⟨_, rfl, rfl, rfl⟩ rfl rfl rfl ?_
                refine G.moveI rfl ⟨_, rfl, rfl, rfl⟩ rfl rfl rfl ?_
                refine G.bin rfl ⟨_, rfl, rfl, rfl⟩ rfl rfl rfl rfl rfl ?_
                refine G.no (t := 238) rfl (by simp) ?_
                first | refine G.pickT rfl trivial rfl rfl rfl rfl ?_ | refine G.pickF rfl trivial rfl rfl rfl rfl ?_
                refine G.moveB rfl trivial rfl rfl rfl ?_
                refine G.moveI rfl ⟨_, rfl, rfl, rfl⟩ rfl rfl rfl ?_
                refine G.bin rfl ⟨_, rfl, rfl, rfl⟩ rfl rfl rfl rfl rfl ?_
                refine G.no (t := 242) rfl (by simp) ?_
                first | refine G.pickT rfl trivial rfl rfl rfl rfl ?_ | refine G.pickF rfl trivial rfl rfl rfl rfl ?_
                refine G.nil ?_
                refine C.condF rfl ?_
                refine C.skip ?_
                refine C.region ?_
                refine G.moveI rfl trivial rfl rfl rfl ?_
                refine G.add rfl trivial rfl rfl rfl rfl (by omega) ?_
                refine G.assignI rfl trivial rfl rfl rfl ?_
                refine G.nil ?_
                exact ⟨ls.length - (i + 1), by omega, i + 1, pg, sg, u, rr, U, by omega, hsg, hA, rfl, rfl, rfl, rfl, rfl, rfl, rfl, rfl, rfl, rfl⟩
            ·
              obtain ⟨hw1, hw32, hwf, hwa⟩ : 1 < w ∧ w < 32 ∧ U[w]? = some false ∧ ∀ j, 1 < j → j < w → U[j]? = some true := by
                rcases hle with ⟨h, _⟩ | h
                · exact absurd h hw
                · exact h
              have hfree := hu w false (by omega) hw32 hwf
              have hall : ∀ j, 2 ≤ j → j < w → usedP (pg 1) j = true := fun j h1 h2 => hu j true h1 (by omega) (hwa j (by omega) h2)
              refine G.call E10 rfl rfl trivial rfl rfl (take_some W0 [_, _] [] bs pg sg hsg hA.us.len w (by omega) hfree hall) rfl ?_
              rintro e L2 ⟨sg1, hsg1, rfl, rfl⟩
              have hA1 := fun x => hA.taken (k := w) (by omega) x
              generalize hp1 : updP (updP pg 1 (setU (pg 1) w)) w zero256 = p2 at *
              have hpw : p2 w = zero256 := by rw [← hp1, updP_same]
              refine G.moveU rfl trivial rfl rfl rfl ?_
              refine G.extractL rfl trivial rfl rfl rfl rfl ?_
              refine G.extractL rfl trivial rfl rfl rfl rfl ?_
              refine G.assignI rfl trivial rfl rfl rfl ?_
              refine G.assignI rfl trivial rfl rfl rfl ?_
              refine G.nil ?_
              refine C.seq ?_
              refine C.seq ?_
              refine C.region ?_
              refine G.moveI rfl trivial rfl rfl rfl ?_
              refine G.bin rfl trivial rfl rfl rfl rfl rfl ?_
              refine G.yes (t := 116) rfl rfl ?_
              refine G.moveI rfl trivial rfl rfl rfl ?_
              refine G.bin rfl trivial rfl rfl rfl rfl rfl ?_
              refine G.yes (t := 118) rfl (by omega) ?_
              refine G.boolNe rfl trivial rfl rfl Try.underlying4 rfl rfl ?_
              refine G.moveB rfl trivial rfl rfl rfl ?_
              refine G.moveI rfl ⟨_, rfl, rfl, rfl⟩ rfl rfl rfl ?_
              refine G.moveI rfl ⟨_, rfl, rfl, rfl⟩ rfl rfl rfl ?_
              refine G.bin rfl ⟨_, rfl, rfl, rfl⟩ rfl rfl rfl rfl rfl ?_
              refine G.no (t := 123) rfl (by simp) ?_
              first | refine G.pickT rfl trivial rfl rfl rfl rfl ?_ | refine G.pickF rfl trivial rfl rfl rfl rfl ?_
              refine G.moveB rfl trivial rfl rfl rfl ?_
              refine G.moveI rfl ⟨_, rfl, rfl, rfl⟩ rfl rfl rfl ?_
              refine G.bin rfl ⟨_, rfl, rfl, rfl⟩ rfl rfl rfl rfl rfl ?_
              refine G.no (t := 127) rfl (by decide) ?_
              refine G.moveB rfl ⟨_, rfl, rfl, rfl⟩ rfl rfl rfl ?_
              refine G.skip rfl rfl rfl rfl rfl rfl ?_
              refine G.skip rfl rfl rfl rfl rfl rfl ?_
              first | refine G.pickT rfl ⟨_, rfl, rfl, rfl⟩ rfl rfl rfl rfl ?_ | refine G.pickF rfl ⟨_, rfl, rfl, rfl⟩ rfl rfl rfl rfl ?_
              first | refine G.pickT rfl trivial rfl rfl rfl rfl ?_ | refine G.pickF rfl trivial rfl rfl rfl rfl ?_
              refine G.nil ?_
              refine C.condF rfl ?_
              refine C.skip ?_
              refine C.seq ?_
              refine C.region ?_
              refine G.moveI rfl trivial rfl rfl rfl ?_
              refine G.bin rfl trivial rfl rfl rfl rfl rfl ?_
              refine G.nil ?_
              refine C.yes rfl (by omega) ?_
              refine C.seq ?_
              refine C.region ?_
              refine G.moveI rfl trivial rfl rfl rfl ?_
              refine G.indexAddrArr rfl trivial rfl rfl Try.underlying31 I4 rfl rfl (by omega) ?_
              refine G.store (v := .bool true) (.next .here) rfl trivial rfl I4 rfl rfl rfl (by rw [List.length_map, hA.len]; omega) ((U.set w true).map Value.bool) (by rw [show 0 + (w : Int).toNat * 1 = w by simp, List.map_set]) ?_
              refine G.nil ?_
              refine C.seq ?_
              refine C.region ?_
              refine G.moveP rfl trivial rfl rfl rfl ?_
              refine G.moveI rfl trivial rfl rfl rfl ?_
              refine G.call E11 rfl rfl trivial rfl rfl (spage_spec W0 [_, _] [] bs p2 sg1 hsg1 w (by omega)) rfl ?_
              rintro e L2 ⟨v140, s140, hv140, rfl, rfl⟩
              rw [hpw] at hv140
              obtain ⟨b140, c140, k140, rfl, rfl, hk140, hc140⟩ := hv140.block (by decide)
              refine G.moveU rfl trivial rfl rfl rfl ?_
              refine G.extractL rfl trivial rfl rfl rfl rfl ?_
              refine G.extractL rfl trivial rfl rfl rfl rfl ?_
              refine G.assignS rfl trivial rfl rfl rfl ?_
              refine G.assignI rfl trivial rfl rfl rfl ?_
              refine G.nil ?_
              refine C.seq ?_
              refine C.seq ?_
              refine C.drawn mixed (_) [] (fun _ h => h) ?_
              refine GA.pure (i := 0) (fun _ _ _ _ _ h => h) rfl (by kernel_rfl) trivial rfl rfl (Y.moveI rfl rfl) (#[true, false, false, false, false, false, false, false, false]) (by kernel_rfl) ?_
              refine GA.pure (i := 1) (fun _ _ _ _ _ h => h) rfl (by kernel_rfl) trivial rfl rfl (Y.bin rfl rfl rfl rfl) (#[true, true, false, false, false, false, false, false, false]) (by kernel_rfl) ?_
              refine GA.no (t := 144) rfl (by simp) ?_
              refine GA.pure (i := 2) (fun _ _ _ _ _ h => h) rfl (by kernel_rfl) trivial rfl rfl (Y.moveB rfl rfl) (#[true, true, true, false, false, false, false, false, false]) (by kernel_rfl) ?_
              refine GA.pure (i := 3) (fun _ _ _ _ _ h => h) rfl (by kernel_rfl) ⟨_, rfl, rfl, rfl⟩ rfl rfl (Y.moveS rfl rfl) (#[true, true, true, true, false, false, false, false, false]) (by kernel_rfl) ?_
              refine GA.read (i := 4) (fun _ _ _ _ _ h => h) rfl (by kernel_rfl) (by kernel_rfl) ⟨_, rfl, rfl, rfl⟩ rfl rfl (Y.bytesStr zero256 rfl Try.underlying25 Try.underlying5 Try.underlying9 rfl zero256_length.symm (Rd.row0 .here)) (#[true, true, true, true, true, false, false, false, false]) (by kernel_rfl) ?_
              refine GA.one (i := 5) rfl (by kernel_rfl) (#[true, true, true, true, true, true, false, false, false]) (by kernel_rfl) ?_
              refine G.makeBytes (l := 256) (c := 256) rfl ⟨_, rfl, rfl, rfl⟩ rfl rfl Try.underlying25 I5 rfl rfl (by decide) ?_
              intro b148
              refine G.nil ?_
              refine ⟨fun _ _ h => h.tail, ?_⟩
              refine GA.one (i := 6) rfl (by kernel_rfl) (#[true, true, true, true, true, true, true, false, false]) (by kernel_rfl) ?_
              refine G.bytesStr zero256 rfl ⟨_, rfl, rfl, rfl⟩ rfl rfl Try.underlying25 Try.underlying5 Try.underlying9 rfl zero256_length.symm (Rd.row0 .here) ?_
              refine G.nil ?_
              refine ⟨fun _ _ h => h.tail, ?_⟩
              refine GA.pure (i := 7) (fun _ _ _ _ _ h => h) rfl (by kernel_rfl) ⟨_, rfl, rfl, rfl⟩ rfl rfl (Y.strNe rfl  rfl rfl) (#[true, true, true, true, true, true, true, true, false]) (by kernel_rfl) ?_
              refine GA.no (t := 150) rfl (by simp) ?_
              first | refine GA.pure (i := 8) (fun _ _ _ _ _ h => h) rfl (by kernel_rfl) trivial rfl rfl (Y.pickT rfl rfl rfl) (#[true, true, true, true, true, true, true, true, true]) (by kernel_rfl) ?_ | refine GA.pure (i := 8) (fun _ _ _ _ _ h => h) rfl (by kernel_rfl) trivial rfl rfl (Y.pickF rfl rfl rfl) (#[true, true, true, true, true, true, true, true, true]) (by kernel_rfl) ?_
              refine GA.done (by kernel_rfl) ?_
              refine C.condF rfl ?_
              refine C.skip ?_
              refine C.seq ?_
              refine C.region ?_
              refine G.moveS rfl trivial rfl rfl rfl ?_
              refine G.indexAddr rfl trivial rfl rfl Try.underlying25 I5 rfl rfl (by omega) ?_
              refine G.store (v := .int .u8 ((7 : UInt8).toNat : Int)) (.next .here) rfl trivial rfl I5 rfl rfl rfl (by rw [bytesV_length, zero256_length]; decide) (bytesV (zero256.set 0 7)) (bytesV_set _ 0 7) ?_
              refine G.nil ?_
              refine C.region ?_
              refine G.moveP rfl trivial rfl rfl rfl ?_
              refine G.moveI rfl trivial rfl rfl rfl ?_
              refine G.moveS rfl trivial rfl rfl rfl ?_
              refine G.call E12 rfl rfl trivial rfl rfl (sset_spec W0 [_, _, _, _] [] bs p2 sg1 hsg1 w (by omega) _ c140 (zero256.set 0 7) (by rw [List.length_set]; exact zero256_length) (Rd.row0 (.next .here))) rfl ?_
              rintro e L2 ⟨sg, hsg, rfl, rfl⟩
              have hA := hA1 (zero256.set 0 7)
              generalize updP p2 w (zero256.set 0 7) = pg at *
              generalize (fun j => u j || decide (j = w)) = u at *
              generalize U.set w true = U at *
              refine G.less (fun _ h => h.tail.tail) ?_
              refine G.nil ?_
              refine C.seq ?_
              refine C.region ?_
              obtain ⟨rr, hrr⟩ : ∃ rr : Nat, rr = r := ⟨_, rfl⟩
              rw [← hrr] at hA
              refine G.fix (d := 11) (v := .int .i64 (rr : Int)) (by show Value.int .i64 (r : Int) = _; rw [hrr]) ?_
              refine G.assignI rfl trivial rfl rfl rfl ?_
              refine G.less (fun _ h => h.tail) ?_
              refine G.nil ?_
              refine C.seq ?_
              refine C.seq ?_
              refine C.region ?_
              refine G.assignI rfl trivial rfl rfl rfl ?_
              refine G.nil ?_
              refine C.block ?_
              refine C.loop (fun m F D' L' => ∃ kk : Nat, kk ≤ 35 ∧ m = 35 - kk ∧ F 24 = .int .i64 ((kk : Int) - 1) ∧ F 23 = .int .i64 (countU (pg 1) (kk - 1) : Nat) ∧ F 12 = .int .i64 i ∧ F 11 = .int .i64 (rr : Int) ∧ F 10 = ptr b10 ∧ F 9 = ptr bs ∧ F 7 = .slice (some ⟨b39, 0, none⟩) 256 256 ∧ F 0 = .int .u8 (b.toNat : Int) ∧ F 1 = .slice (some ⟨p1, o1, none⟩) ls.length c1 ∧ D' = [] ∧ [(b10, .row (U.map Value.bool) 31 32)] :: sg :: [] = L') ⟨_, ⟨0, by omega, rfl, rfl, rfl, rfl, rfl, rfl, rfl, rfl, rfl, rfl, rfl, rfl⟩⟩ ?_
              rintro m F D' L' ⟨kk, hkk, rfl, h24, h23, h12, h11, h10, h9, h7, h0', h1', rfl, rfl⟩
              refine C.fix (d := 24) h24 ?_
              refine C.fix (d := 23) h23 ?_
              refine C.fix (d := 12) h12 ?_
              refine C.fix (d := 11) h11 ?_
              refine C.fix (d := 10) h10 ?_
              refine C.fix (d := 9) h9 ?_
              refine C.fix (d := 7) h7 ?_
              refine C.fix (d := 0) h0' ?_
              refine C.fix (d := 1) h1' ?_
              refine C.seq ?_
              refine C.seq ?_
              refine C.region ?_
              refine G.moveI rfl trivial rfl rfl rfl ?_
              refine G.bin rfl trivial rfl rfl rfl rfl rfl ?_
              refine G.nil ?_
              refine C.cond _ rfl ?_ ?_
              · intro hc14
                have hcs := cnt_step (pg 1) kk
                have hcl := countU_le (pg 1) (kk - 1)
                refine C.skip ?_
                refine C.seq ?_
                refine C.block ?_
                refine C.seq ?_
                refine C.region ?_
                refine G.moveI rfl trivial rfl rfl rfl ?_
                refine G.bin rfl trivial rfl rfl rfl rfl rfl ?_
                refine G.moveB rfl trivial rfl rfl rfl ?_
                refine G.fork (t := 190) _ rfl ?_ ?_
                · intro hg190
                  refine G.moveI rfl ⟨_, rfl, rfl, rfl⟩ rfl rfl rfl ?_
                  refine G.bin rfl ⟨_, rfl, rfl, rfl⟩ rfl rfl rfl rfl rfl ?_
                  first | refine G.pickT rfl trivial rfl rfl rfl rfl ?_ | refine G.pickF rfl trivial rfl rfl rfl rfl ?_
                  refine G.moveB rfl trivial rfl rfl rfl ?_
                  refine G.fork (t := 194) _ rfl ?_ ?_
                  · intro hg194
                    refine G.moveI rfl ⟨_, rfl, rfl, rfl⟩ rfl rfl rfl ?_
                    obtain ⟨ux, hux, hhas⟩ := hA.has (k := (kk : Int) - 1) (by omega)
                    refine G.indexAddrArr rfl ⟨_, rfl, rfl, rfl⟩ rfl rfl Try.underlying31 I4 rfl rfl (by omega) ?_
                    refine G.loadAt (v := .bool ux) .here rfl ⟨_, rfl, rfl, rfl⟩ rfl rfl Try.underlying4 rfl rfl (by rw [show 0 + ((kk : Int) - 1).toNat * 1 = ((kk : Int) - 1).toNat by omega]; exact boolsV_at hux) ?_
                    first | refine G.pickT rfl trivial rfl rfl rfl rfl ?_ | refine G.pickF rfl trivial rfl rfl rfl rfl ?_
                    refine G.assignB rfl trivial rfl rfl rfl ?_
                    refine G.nil ?_
                    refine C.seq ?_
                    refine C.region ?_
                    refine G.moveP rfl trivial rfl rfl rfl ?_
                    refine G.makeInterface rfl trivial rfl rfl Try.underlying29 rfl ?_
                    refine G.moveI rfl trivial rfl rfl rfl ?_
                    refine G.call E15 rfl rfl trivial rfl rfl (used_spec W0 _ _ _ _ hA.us.len (aread_sheet W0 [_] [] bs pg sg hsg) ((kk : Int) - 1)) rfl ?_
                    rintro e L2 ⟨rfl, rfl⟩
                    rw [hhas] at hcs ⊢
                    refine G.moveU rfl trivial rfl rfl rfl ?_
                    refine G.extractL rfl trivial rfl rfl rfl rfl ?_
                    refine G.extractL rfl trivial rfl rfl rfl rfl ?_
                    refine G.assignB rfl trivial rfl rfl rfl ?_
                    refine G.assignI rfl trivial rfl rfl rfl ?_
                    refine G.nil ?_
                    refine C.seq ?_
                    refine C.seq ?_
                    refine C.region ?_
                    refine G.moveB rfl trivial rfl rfl rfl ?_
                    refine G.moveB rfl trivial rfl rfl rfl ?_
                    refine G.boolNe rfl trivial rfl rfl Try.underlying4 rfl rfl ?_
                    refine G.fix (d := 208) (v := .bool false) (by show Value.bool (ux != ux) = _; cases ux <;> rfl) ?_
                    refine G.moveB rfl trivial rfl rfl rfl ?_
                    refine G.moveI rfl ⟨_, rfl, rfl, rfl⟩ rfl rfl rfl ?_
                    refine G.bin rfl ⟨_, rfl, rfl, rfl⟩ rfl rfl rfl rfl rfl ?_
                    refine G.no (t := 211) rfl (by simp) ?_
                    first | refine G.pickT rfl trivial rfl rfl rfl rfl ?_ | refine G.pickF rfl trivial rfl rfl rfl rfl ?_
                    refine G.nil ?_
                    refine C.condF rfl ?_
                    refine C.skip ?_
                    refine C.seq ?_
                    refine C.region ?_
                    refine G.moveB rfl trivial rfl rfl rfl ?_
                    refine G.nil ?_
                    refine C.condB _ rfl ?_ ?_
                    · intro hc16
                      refine C.region ?_
                      refine G.moveI rfl trivial rfl rfl rfl ?_
                      refine G.add rfl trivial rfl rfl rfl rfl (by omega) ?_
                      refine G.assignI rfl trivial rfl rfl rfl ?_
                      refine G.nil ?_
                      refine C.region ?_
                      refine G.moveI rfl trivial rfl rfl rfl ?_
                      refine G.add rfl trivial rfl rfl rfl rfl (by omega) ?_
                      refine G.assignI rfl trivial rfl rfl rfl ?_
                      refine G.nil ?_
                      exact ⟨35 - (kk + 1), by omega, kk + 1, by omega, rfl, (by show Value.int .i64 _ = _; congr 1; omega), (by show Value.int .i64 (((countU (pg 1) (kk - 1) : Nat) : Int) + 1) = Value.int .i64 ((countU (pg 1) (kk + 1 - 1) : Nat) : Int); rw [hcs, hc16]; rfl), rfl, rfl, rfl, rfl, rfl, rfl, rfl, rfl, rfl⟩
                    · intro hc16
                      refine C.skip ?_
                      refine C.region ?_
                      refine G.moveI rfl trivial rfl rfl rfl ?_
                      refine G.add rfl trivial rfl rfl rfl rfl (by omega) ?_
                      refine G.assignI rfl trivial rfl rfl rfl ?_
                      refine G.nil ?_
                      exact ⟨35 - (kk + 1), by omega, kk + 1, by omega, rfl, (by show Value.int .i64 _ = _; congr 1; omega), (by show Value.int .i64 ((countU (pg 1) (kk - 1) : Nat) : Int) = Value.int .i64 ((countU (pg 1) (kk + 1 - 1) : Nat) : Int); rw [hcs, hc16]; rfl), rfl, rfl, rfl, rfl, rfl, rfl, rfl, rfl, rfl⟩
                  · intro hg194
                    refine G.skip rfl rfl rfl rfl rfl rfl ?_
                    refine G.skip rfl rfl rfl rfl rfl rfl ?_
                    refine G.skip rfl rfl rfl rfl rfl rfl ?_
                    first | refine G.pickT rfl trivial rfl rfl rfl rfl ?_ | refine G.pickF rfl trivial rfl rfl rfl rfl ?_
                    refine G.assignB rfl trivial rfl rfl rfl ?_
                    refine G.nil ?_
                    refine C.seq ?_
                    refine C.region ?_
                    refine G.moveP rfl trivial rfl rfl rfl ?_
                    refine G.makeInterface rfl trivial rfl rfl Try.underlying29 rfl ?_
                    refine G.moveI rfl trivial rfl rfl rfl ?_
                    refine G.call E15 rfl rfl trivial rfl rfl (used_spec W0 _ _ _ _ hA.us.len (aread_sheet W0 [_] [] bs pg sg hsg) ((kk : Int) - 1)) rfl ?_
                    rintro e L2 ⟨rfl, rfl⟩
                    have hhas := has_out (pg 1) (k := (kk : Int) - 1) (by omega)
                    rw [hhas] at hcs ⊢
                    refine G.moveU rfl trivial rfl rfl rfl ?_
                    refine G.extractL rfl trivial rfl rfl rfl rfl ?_
                    refine G.extractL rfl trivial rfl rfl rfl rfl ?_
                    refine G.assignB rfl trivial rfl rfl rfl ?_
                    refine G.assignI rfl trivial rfl rfl rfl ?_
                    refine G.nil ?_
                    refine C.seq ?_
                    refine C.seq ?_
                    refine C.region ?_
                    refine G.moveB rfl trivial rfl rfl rfl ?_
                    refine G.moveB rfl trivial rfl rfl rfl ?_
                    refine G.boolNe rfl trivial rfl rfl Try.underlying4 rfl rfl ?_
                    refine G.fix (d := 208) (v := .bool false) (rfl) ?_
                    refine G.moveB rfl trivial rfl rfl rfl ?_
                    refine G.moveI rfl ⟨_, rfl, rfl, rfl⟩ rfl rfl rfl ?_
                    refine G.bin rfl ⟨_, rfl, rfl, rfl⟩ rfl rfl rfl rfl rfl ?_
                    refine G.no (t := 211) rfl (by simp) ?_
                    first | refine G.pickT rfl trivial rfl rfl rfl rfl ?_ | refine G.pickF rfl trivial rfl rfl rfl rfl ?_
                    refine G.nil ?_
                    refine C.condF rfl ?_
                    refine C.skip ?_
                    refine C.seq ?_
                    refine C.region ?_
                    refine G.moveB rfl trivial rfl rfl rfl ?_
                    refine G.nil ?_
                    refine C.condF rfl ?_
                    refine C.skip ?_
                    refine C.region ?_
                    refine G.moveI rfl trivial rfl rfl rfl ?_
                    refine G.add rfl trivial rfl rfl rfl rfl (by omega) ?_
                    refine G.assignI rfl trivial rfl rfl rfl ?_
                    refine G.nil ?_
                    exact ⟨35 - (kk + 1), by omega, kk + 1, by omega, rfl, (by show Value.int .i64 _ = _; congr 1; omega), (by show Value.int .i64 ((countU (pg 1) (kk - 1) : Nat) : Int) = Value.int .i64 ((countU (pg 1) (kk + 1 - 1) : Nat) : Int); rw [hcs]; rfl), rfl, rfl, rfl, rfl, rfl, rfl, rfl, rfl, rfl⟩
                · intro hg190
                  refine G.skip rfl rfl rfl rfl rfl rfl ?_
                  refine G.skip rfl rfl rfl rfl rfl rfl ?_
                  first | refine G.pickT rfl trivial rfl rfl rfl rfl ?_ | refine G.pickF rfl trivial rfl rfl rfl rfl ?_
                  refine G.moveB rfl trivial rfl rfl rfl ?_
                  refine G.skip rfl rfl rfl rfl rfl rfl ?_
                  refine G.skip rfl rfl rfl rfl rfl rfl ?_
                  refine G.skip rfl rfl rfl rfl rfl rfl ?_
                  first | refine G.pickT rfl trivial rfl rfl rfl rfl ?_ | refine G.pickF rfl trivial rfl rfl rfl rfl ?_
                  refine G.assignB rfl trivial rfl rfl rfl ?_
                  refine G.nil ?_
                  refine C.seq ?_
                  refine C.region ?_
                  refine G.moveP rfl trivial rfl rfl rfl ?_
                  refine G.makeInterface rfl trivial rfl rfl Try.underlying29 rfl ?_
                  refine G.moveI rfl trivial rfl rfl rfl ?_
                  refine G.call E15 rfl rfl trivial rfl rfl (used_spec W0 _ _ _ _ hA.us.len (aread_sheet W0 [_] [] bs pg sg hsg) ((kk : Int) - 1)) rfl ?_
                  rintro e L2 ⟨rfl, rfl⟩
                  have hhas := has_out (pg 1) (k := (kk : Int) - 1) (by omega)
                  rw [hhas] at hcs ⊢
                  refine G.moveU rfl trivial rfl rfl rfl ?_
                  refine G.extractL rfl trivial rfl rfl rfl rfl ?_
                  refine G.extractL rfl trivial rfl rfl rfl rfl ?_
                  refine G.assignB rfl trivial rfl rfl rfl ?_
                  refine G.assignI rfl trivial rfl rfl rfl ?_
                  refine G.nil ?_
                  refine C.seq ?_
                  refine C.seq ?_
                  refine C.region ?_
                  refine G.moveB rfl trivial rfl rfl rfl ?_
                  refine G.moveB rfl trivial rfl rfl rfl ?_
                  refine G.boolNe rfl trivial rfl rfl Try.underlying4 rfl rfl ?_
                  refine G.fix (d := 208) (v := .bool false) (rfl) ?_
                  refine G.moveB rfl trivial rfl rfl rfl ?_
                  refine G.moveI rfl ⟨_, rfl, rfl, rfl⟩ rfl rfl rfl ?_
                  refine G.bin rfl ⟨_, rfl, rfl, rfl⟩ rfl rfl rfl rfl rfl ?_
                  refine G.no (t := 211) rfl (by simp) ?_
                  first | refine G.pickT rfl trivial rfl rfl rfl rfl ?_ | refine G.pickF rfl trivial rfl rfl rfl rfl ?_
                  refine G.nil ?_
                  refine C.condF rfl ?_
                  refine C.skip ?_
                  refine C.seq ?_
                  refine C.region ?_
                  refine G.moveB rfl trivial rfl rfl rfl ?_
                  refine G.nil ?_
                  refine C.condF rfl ?_
                  refine C.skip ?_
                  refine C.region ?_
                  refine G.moveI rfl trivial rfl rfl rfl ?_
                  refine G.add rfl trivial rfl rfl rfl rfl (by omega) ?_
                  refine G.assignI rfl trivial rfl rfl rfl ?_
                  refine G.nil ?_
                  exact ⟨35 - (kk + 1), by omega, kk + 1, by omega, rfl, (by show Value.int .i64 _ = _; congr 1; omega), (by show Value.int .i64 ((countU (pg 1) (kk - 1) : Nat) : Int) = Value.int .i64 ((countU (pg 1) (kk + 1 - 1) : Nat) : Int); rw [hcs]; rfl), rfl, rfl, rfl, rfl, rfl, rfl, rfl, rfl, rfl⟩
              · intro hc14
                obtain rfl : kk = 35 := by omega
                refine C.exit ?_
                refine C.seq ?_
                refine C.region ?_
                refine G.moveP rfl trivial rfl rfl rfl ?_
                refine G.makeInterface rfl trivial rfl rfl Try.underlying29 rfl ?_
                refine G.call E16 rfl rfl trivial rfl rfl (count_spec W0 _ _ _ _ hA.us.len (aread_sheet W0 [_] [] bs pg sg hsg)) rfl ?_
                rintro e L2 ⟨rfl, rfl⟩
                rw [← countU_end]
                refine G.moveU rfl trivial rfl rfl rfl ?_
                refine G.extractL rfl trivial rfl rfl rfl rfl ?_
                refine G.extractL rfl trivial rfl rfl rfl rfl ?_
                refine G.assignI rfl trivial rfl rfl rfl ?_
                refine G.assignI rfl trivial rfl rfl rfl ?_
                refine G.nil ?_
                refine C.seq ?_
                refine C.region ?_
                refine G.moveP rfl trivial rfl rfl rfl ?_
                refine G.makeInterface rfl trivial rfl rfl Try.underlying29 rfl ?_
                refine G.call E17 rfl rfl trivial rfl rfl (root_spec W0 _ _ _ _ hA.us.len (aread_sheet W0 [_] [] bs pg sg hsg)) rfl ?_
                rintro e L2 ⟨rfl, rfl⟩
                rw [hA.us.root, if_pos hA.root]
                refine G.moveU rfl trivial rfl rfl rfl ?_
                refine G.extractL rfl trivial rfl rfl rfl rfl ?_
                refine G.extractL rfl trivial rfl rfl rfl rfl ?_
                refine G.assignI rfl trivial rfl rfl rfl ?_
                refine G.assignI rfl trivial rfl rfl rfl ?_
                refine G.nil ?_
                refine C.seq ?_
                refine C.region ?_
                refine G.moveI rfl trivial rfl rfl rfl ?_
                refine G.moveI rfl trivial rfl rfl rfl ?_
                refine G.bin rfl trivial rfl rfl rfl rfl rfl ?_
                refine G.no (t := 230) rfl (by simp) ?_
                refine G.moveB rfl trivial rfl rfl rfl ?_
                refine G.moveI rfl ⟨_, rfl, rfl, rfl⟩ rfl rfl rfl ?_
                refine G.bin rfl ⟨_, rfl, rfl, rfl⟩ rfl rfl rfl rfl rfl ?_
                refine G.no (t := 233) rfl (by simp) ?_
                first | refine G.pickT rfl trivial rfl rfl rfl rfl ?_ | refine G.pickF rfl trivial rfl rfl rfl rfl ?_
                refine G.moveB rfl trivial rfl rfl rfl ?_
                refine G.moveI rfl ⟨_, rfl, rfl, rfl⟩ rfl rfl rfl ?_
                refine G.moveI rfl ⟨_, rfl, rfl, rfl⟩ rfl rfl rfl ?_
                refine G.bin rfl ⟨_, rfl, rfl, rfl⟩ rfl rfl rfl rfl rfl ?_
                refine G.no (t := 238) rfl (by simp) ?_
                first | refine G.pickT rfl trivial rfl rfl rfl rfl ?_ | refine G.pickF rfl trivial rfl rfl rfl rfl ?_
                refine G.moveB rfl trivial rfl rfl rfl ?_
                refine G.moveI rfl ⟨_, rfl, rfl, rfl⟩ rfl rfl rfl ?_
                refine G.bin rfl ⟨_, rfl, rfl, rfl⟩ rfl rfl rfl rfl rfl ?_
                refine G.no (t := 242) rfl (by simp) ?_
                first | refine G.pickT rfl trivial rfl rfl rfl rfl ?_ | refine G.pickF rfl trivial rfl rfl rfl rfl ?_
                refine G.nil ?_
                refine C.condF rfl ?_
                refine C.skip ?_
                refine C.region ?_
                refine G.moveI rfl trivial rfl rfl rfl ?_
                refine G.add rfl trivial rfl rfl rfl rfl (by omega) ?_
                refine G.assignI rfl trivial rfl rfl rfl ?_
                refine G.nil ?_
                exact ⟨ls.length - (i + 1), by omega, i + 1, pg, sg, u, rr, U, by omega, hsg, hA, rfl, rfl, rfl, rfl, rfl, rfl, rfl, rfl, rfl, rfl⟩
        · intro hc3
          refine C.seq ?_
          refine C.region ?_
          refine G.bin rfl trivial rfl rfl rfl rfl rfl ?_
          refine G.assignB rfl trivial rfl rfl rfl ?_
          refine G.nil ?_
          refine C.cond _ rfl ?_ ?_
          · intro hc9
            refine C.seq ?_
            refine C.region ?_
            refine G.fieldAddr rfl trivial rfl rfl Try.underlying33 rfl I3 rfl rfl ?_
            refine G.loadAt (by first | exact .here | exact .next .here | exact .next (.next .here) | exact .next (.next (.next .here)) | exact .next (.next (.next (.next .here))) | exact .next (.next (.next (.next (.next .here)))) | exact .next (.next (.next (.next (.next (.next .here))))) | exact .next (.next (.next (.next (.next (.next (.next .here)))))) | exact .in1 | exact .next .in1 | exact .next (.next .in1) | exact .next (.next (.next .in1)) | exact .next (.next (.next (.next .in1))) | exact .in2 | exact .next .in2 | exact .next (.next .in2) | exact .next (.next (.next .in2)) | exact .next (.next (.next (.next .in2))) | exact .app .here | exact .app (.next .here) | exact .app (.next (.next .here)) | exact .app (.next (.next (.next .here))) | exact .app (.next (.next (.next (.next .here)))) | exact .app (.next (.next (.next (.next (.next .here))))) | exact .app (.next (.next (.next (.next (.next (.next .here)))))) | exact .app (.next (.next (.next (.next (.next (.next (.next .here))))))) | exact .app .in1 | exact .app .in2 | exact .app (.next .in1) | exact .next (.app .in1) | exact .next (.next (.app .in1)) | exact .next (.app .here) | exact .next (.next (.app .here)) | exact .next (.next (.next (.app .here))) | exact .next (.next (.next (.next (.app .here))))) rfl trivial rfl rfl Try.underlying3 rfl rfl (by rfl) ?_
            refine G.bin rfl trivial rfl rfl rfl rfl rfl ?_
            refine G.moveB rfl trivial rfl rfl rfl ?_
            refine G.fork (t := 163) _ rfl ?_ ?_
            · intro hg163
              refine G.fieldAddr rfl ⟨_, rfl, rfl, rfl⟩ rfl rfl Try.underlying33 rfl I3 rfl rfl ?_
              refine G.loadAt (by first | exact .here | exact .next .here | exact .next (.next .here) | exact .next (.next (.next .here)) | exact .next (.next (.next (.next .here))) | exact .next (.next (.next (.next (.next .here)))) | exact .next (.next (.next (.next (.next (.next .here))))) | exact .next (.next (.next (.next (.next (.next (.next .here)))))) | exact .in1 | exact .next .in1 | exact .next (.next .in1) | exact .next (.next (.next .in1)) | exact .next (.next (.next (.next .in1))) | exact .in2 | exact .next .in2 | exact .next (.next .in2) | exact .next (.next (.next .in2)) | exact .next (.next (.next (.next .in2))) | exact .app .here | exact .app (.next .here) | exact .app (.next (.next .here)) | exact .app (.next (.next (.next .here))) | exact .app (.next (.next (.next (.next .here)))) | exact .app (.next (.next (.next (.next (.next .here))))) | exact .app (.next (.next (.next (.next (.next (.next .here)))))) | exact .app (.next (.next (.next (.next (.next (.next (.next .here))))))) | exact .app .in1 | exact .app .in2 | exact .app (.next .in1) | exact .next (.app .in1) | exact .next (.next (.app .in1)) | exact .next (.app .here) | exact .next (.next (.app .here)) | exact .next (.next (.next (.app .here))) | exact .next (.next (.next (.next (.app .here))))) rfl ⟨_, rfl, rfl, rfl⟩ rfl rfl Try.underlying3 rfl rfl (by rfl) ?_
              refine G.bin rfl ⟨_, rfl, rfl, rfl⟩ rfl rfl rfl rfl rfl ?_
              first | refine G.pickT rfl trivial rfl rfl rfl rfl ?_ | refine G.pickF rfl trivial rfl rfl rfl rfl ?_
              refine G.moveB rfl trivial rfl rfl rfl ?_
              refine G.fork (t := 168) _ rfl ?_ ?_
              · intro hg168
                refine G.fieldAddr rfl ⟨_, rfl, rfl, rfl⟩ rfl rfl Try.underlying33 rfl I3 rfl rfl ?_
                refine G.loadAt (by first | exact .here | exact .next .here | exact .next (.next .here) | exact .next (.next (.next .here)) | exact .next (.next (.next (.next .here))) | exact .next (.next (.next (.next (.next .here)))) | exact .next (.next (.next (.next (.next (.next .here))))) | exact .next (.next (.next (.next (.next (.next (.next .here)))))) | exact .in1 | exact .next .in1 | exact .next (.next .in1) | exact .next (.next (.next .in1)) | exact .next (.next (.next (.next .in1))) | exact .in2 | exact .next .in2 | exact .next (.next .in2) | exact .next (.next (.next .in2)) | exact .next (.next (.next (.next .in2))) | exact .app .here | exact .app (.next .here) | exact .app (.next (.next .here)) | exact .app (.next (.next (.next .here))) | exact .app (.next (.next (.next (.next .here)))) | exact .app (.next (.next (.next (.next (.next .here))))) | exact .app (.next (.next (.next (.next (.next (.next .here)))))) | exact .app (.next (.next (.next (.next (.next (.next (.next .here))))))) | exact .app .in1 | exact .app .in2 | exact .app (.next .in1) | exact .next (.app .in1) | exact .next (.next (.app .in1)) | exact .next (.app .here) | exact .next (.next (.app .here)) | exact .next (.next (.next (.app .here))) | exact .next (.next (.next (.next (.app .here))))) rfl ⟨_, rfl, rfl, rfl⟩ rfl rfl Try.underlying3 rfl rfl (by rfl) ?_
                obtain ⟨ux, hux, hhas⟩ := hA.has (k := no) (by omega)
                obtain ⟨j, rfl⟩ : ∃ j : Nat, no = j := ⟨no.toNat, by omega⟩
                rw [Int.toNat_natCast] at hux
                refine G.indexAddrArr rfl ⟨_, rfl, rfl, rfl⟩ rfl rfl Try.underlying31 I4 rfl rfl (by omega) ?_
                refine G.loadAt (v := .bool ux) (.next .here) rfl ⟨_, rfl, rfl, rfl⟩ rfl rfl Try.underlying4 rfl rfl (by rw [show 0 + (j : Int).toNat * 1 = j by simp]; exact boolsV_at hux) ?_
                first | refine G.pickT rfl trivial rfl rfl rfl rfl ?_ | refine G.pickF rfl trivial rfl rfl rfl rfl ?_
                refine G.assignB rfl trivial rfl rfl rfl ?_
                refine G.nil ?_
                refine C.seq ?_
                refine C.region ?_
                refine G.assignI rfl trivial rfl rfl rfl ?_
                refine G.nil ?_
                refine C.seq ?_
                refine C.seq ?_
                refine C.region ?_
                refine G.moveB rfl trivial rfl rfl rfl ?_
                refine G.nil ?_
                refine C.condB _ rfl ?_ ?_
                · intro hc10
                  refine C.seq ?_
                  refine C.region ?_
                  refine G.assignI rfl trivial rfl rfl rfl ?_
                  refine G.nil ?_
                  refine C.region ?_
                  refine G.fieldAddr rfl trivial rfl rfl Try.underlying33 rfl I3 rfl rfl ?_
                  refine G.loadAt (by first | exact .here | exact .next .here | exact .next (.next .here) | exact .next (.next (.next .here)) | exact .next (.next (.next (.next .here))) | exact .next (.next (.next (.next (.next .here)))) | exact .next (.next (.next (.next (.next (.next .here))))) | exact .next (.next (.next (.next (.next (.next (.next .here)))))) | exact .in1 | exact .next .in1 | exact .next (.next .in1) | exact .next (.next (.next .in1)) | exact .next (.next (.next (.next .in1))) | exact .in2 | exact .next .in2 | exact .next (.next .in2) | exact .next (.next (.next .in2)) | exact .next (.next (.next (.next .in2))) | exact .app .here | exact .app (.next .here) | exact .app (.next (.next .here)) | exact .app (.next (.next (.next .here))) | exact .app (.next (.next (.next (.next .here)))) | exact .app (.next (.next (.next (.next (.next .here))))) | exact .app (.next (.next (.next (.next (.next (.next .here)))))) | exact .app (.next (.next (.next (.next (.next (.next (.next .here))))))) | exact .app .in1 | exact .app .in2 | exact .app (.next .in1) | exact .next (.app .in1) | exact .next (.next (.app .in1)) | exact .next (.app .here) | exact .next (.next (.app .here)) | exact .next (.next (.next (.app .here))) | exact .next (.next (.next (.next (.app .here))))) rfl trivial rfl rfl Try.underlying3 rfl rfl (by rfl) ?_
                  refine G.indexAddrArr rfl trivial rfl rfl Try.underlying31 I4 rfl rfl (by omega) ?_
                  refine G.store (v := .bool false) (.next .here) rfl trivial rfl I4 rfl rfl rfl (by rw [List.length_map, hA.len]; omega) ((U.set j false).map Value.bool) (by rw [show 0 + (j : Int).toNat * 1 = j by simp, List.map_set]) ?_
                  refine G.nil ?_
                  refine C.seq ?_
                  refine C.region ?_
                  refine G.moveP rfl trivial rfl rfl rfl ?_
                  refine G.fieldAddr rfl trivial rfl rfl Try.underlying33 rfl I3 rfl rfl ?_
                  refine G.loadAt (by first | exact .here | exact .next .here | exact .next (.next .here) | exact .next (.next (.next .here)) | exact .next (.next (.next (.next .here))) | exact .next (.next (.next (.next (.next .here)))) | exact .next (.next (.next (.next (.next (.next .here))))) | exact .next (.next (.next (.next (.next (.next (.next .here)))))) | exact .in1 | exact .next .in1 | exact .next (.next .in1) | exact .next (.next (.next .in1)) | exact .next (.next (.next (.next .in1))) | exact .in2 | exact .next .in2 | exact .next (.next .in2) | exact .next (.next (.next .in2)) | exact .next (.next (.next (.next .in2))) | exact .app .here | exact .app (.next .here) | exact .app (.next (.next .here)) | exact .app (.next (.next (.next .here))) | exact .app (.next (.next (.next (.next .here)))) | exact .app (.next (.next (.next (.next (.next .here))))) | exact .app (.next (.next (.next (.next (.next (.next .here)))))) | exact .app (.next (.next (.next (.next (.next (.next (.next .here))))))) | exact .app .in1 | exact .app .in2 | exact .app (.next .in1) | exact .next (.app .in1) | exact .next (.next (.app .in1)) | exact .next (.app .here) | exact .next (.next (.app .here)) | exact .next (.next (.next (.app .here))) | exact .next (.next (.next (.next (.app .here))))) rfl trivial rfl rfl Try.underlying3 rfl rfl (by rfl) ?_
                  refine G.call E13 rfl rfl trivial rfl rfl (free_ok W0 [_, _] [] bs pg sg hsg hA.us.len j (hhas.trans hc10)) rfl ?_
                  rintro e L2 ⟨sg, hsg, rfl, rfl⟩
                  have hA := hA.freed (k := j) (by omega)
                  generalize updP pg 1 (clrU (pg 1) j) = pg at *
                  generalize (fun q => u q && !decide (q = j)) = u at *
                  generalize U.set j false = U at *
                  refine G.moveI rfl trivial rfl rfl rfl ?_
                  refine G.bin rfl trivial rfl rfl rfl rfl rfl ?_
                  refine G.no (t := 183) rfl (by simp) ?_
                  refine G.nil ?_
                  refine C.condF rfl ?_
                  refine C.skip ?_
                  refine C.seq ?_
                  refine C.region ?_
                  obtain ⟨rr, hrr⟩ : ∃ rr : Nat, rr = r := ⟨_, rfl⟩
                  rw [← hrr] at hA
                  refine G.fix (d := 11) (v := .int .i64 (rr : Int)) (by show Value.int .i64 (r : Int) = _; rw [hrr]) ?_
                  refine G.assignI rfl trivial rfl rfl rfl ?_
                  refine G.less (fun _ h => h.tail) ?_
                  refine G.nil ?_
                  refine C.seq ?_
                  refine C.seq ?_
                  refine C.region ?_
                  refine G.assignI rfl trivial rfl rfl rfl ?_
                  refine G.nil ?_
                  refine C.block ?_
                  refine C.loop (fun m F D' L' => ∃ kk : Nat, kk ≤ 35 ∧ m = 35 - kk ∧ F 24 = .int .i64 ((kk : Int) - 1) ∧ F 23 = .int .i64 (countU (pg 1) (kk - 1) : Nat) ∧ F 12 = .int .i64 i ∧ F 11 = .int .i64 (rr : Int) ∧ F 10 = ptr b10 ∧ F 9 = ptr bs ∧ F 7 = .slice (some ⟨b39, 0, none⟩) 256 256 ∧ F 0 = .int .u8 (b.toNat : Int) ∧ F 1 = .slice (some ⟨p1, o1, none⟩) ls.length c1 ∧ D' = [] ∧ [(b10, .row (U.map Value.bool) 31 32)] :: sg :: [] = L') ⟨_, ⟨0, by omega, rfl, rfl, rfl, rfl, rfl, rfl, rfl, rfl, rfl, rfl, rfl, rfl⟩⟩ ?_
                  rintro m F D' L' ⟨kk, hkk, rfl, h24, h23, h12, h11, h10, h9, h7, h0', h1', rfl, rfl⟩
                  refine C.fix (d := 24) h24 ?_
                  refine C.fix (d := 23) h23 ?_
                  refine C.fix (d := 12) h12 ?_
                  refine C.fix (d := 11) h11 ?_
                  refine C.fix (d := 10) h10 ?_
                  refine C.fix (d := 9) h9 ?_
                  refine C.fix (d := 7) h7 ?_
                  refine C.fix (d := 0) h0' ?_
                  refine C.fix (d := 1) h1' ?_
                  refine C.seq ?_
                  refine C.seq ?_
                  refine C.region ?_
                  refine G.moveI rfl trivial rfl rfl rfl ?_
                  refine G.bin rfl trivial rfl rfl rfl rfl rfl ?_
                  refine G.nil ?_
                  refine C.cond _ rfl ?_ ?_
                  · intro hc14
                    have hcs := cnt_step (pg 1) kk
                    have hcl := countU_le (pg 1) (kk - 1)
                    refine C.skip ?_
                    refine C.seq ?_
                    refine C.block ?_
                    refine C.seq ?_
                    refine C.region ?_
                    refine G.moveI rfl trivial rfl rfl rfl ?_
                    refine G.bin rfl trivial rfl rfl rfl rfl rfl ?_
                    refine G.moveB rfl trivial rfl rfl rfl ?_
                    refine G.fork (t := 190) _ rfl ?_ ?_
                    · intro hg190
                      refine G.moveI rfl ⟨_, rfl, rfl, rfl⟩ rfl rfl rfl ?_
                      refine G.bin rfl ⟨_, rfl, rfl, rfl⟩ rfl rfl rfl rfl rfl ?_
                      first | refine G.pickT rfl trivial rfl rfl rfl rfl ?_ | refine G.pickF rfl trivial rfl rfl rfl rfl ?_
                      refine G.moveB rfl trivial rfl rfl rfl ?_
                      refine G.fork (t := 194) _ rfl ?_ ?_
                      · intro hg194
                        refine G.moveI rfl ⟨_, rfl, rfl, rfl⟩ rfl rfl rfl ?_
                        obtain ⟨ux, hux, hhas⟩ := hA.has (k := (kk : Int) - 1) (by omega)
                        refine G.indexAddrArr rfl ⟨_, rfl, rfl, rfl⟩ rfl rfl Try.underlying31 I4 rfl rfl (by omega) ?_
                        refine G.loadAt (v := .bool ux) .here rfl ⟨_, rfl, rfl, rfl⟩ rfl rfl Try.underlying4 rfl rfl (by rw [show 0 + ((kk : Int) - 1).toNat * 1 = ((kk : Int) - 1).toNat by omega]; exact boolsV_at hux) ?_
                        first | refine G.pickT rfl trivial rfl rfl rfl rfl ?_ | refine G.pickF rfl trivial rfl rfl rfl rfl ?_
                        refine G.assignB rfl trivial rfl rfl rfl ?_
                        refine G.nil ?_
                        refine C.seq ?_
                        refine C.region ?_
                        refine G.moveP rfl trivial rfl rfl rfl ?_
                        refine G.makeInterface rfl trivial rfl rfl Try.underlying29 rfl ?_
                        refine G.moveI rfl trivial rfl rfl rfl ?_
                        refine G.call E15 rfl rfl trivial rfl rfl (used_spec W0 _ _ _ _ hA.us.len (aread_sheet W0 [_] [] bs pg sg hsg) ((kk : Int) - 1)) rfl ?_
                        rintro e L2 ⟨rfl, rfl⟩
                        rw [hhas] at hcs ⊢
                        refine G.moveU rfl trivial rfl rfl rfl ?_
                        refine G.extractL rfl trivial rfl rfl rfl rfl ?_
                        refine G.extractL rfl trivial rfl rfl rfl rfl ?_
                        refine G.assignB rfl trivial rfl rfl rfl ?_
                        refine G.assignI rfl trivial rfl rfl rfl ?_
                        refine G.nil ?_
                        refine C.seq ?_
                        refine C.seq ?_
                        refine C.region ?_
                        refine G.moveB rfl trivial rfl rfl rfl ?_
                        refine G.moveB rfl trivial rfl rfl rfl ?_
                        refine G.boolNe rfl trivial rfl rfl Try.underlying4 rfl rfl ?_
                        refine G.fix (d := 208) (v := .bool false) (by show Value.bool (ux != ux) = _; cases ux <;> rfl) ?_
                        refine G.moveB rfl trivial rfl rfl rfl ?_
                        refine G.moveI rfl ⟨_, rfl, rfl, rfl⟩ rfl rfl rfl ?_
                        refine G.bin rfl ⟨_, rfl, rfl, rfl⟩ rfl rfl rfl rfl rfl ?_
                        refine G.no (t := 211) rfl (by simp) ?_
                        first | refine G.pickT rfl trivial rfl rfl rfl rfl ?_ | refine G.pickF rfl trivial rfl rfl rfl rfl ?_
                        refine G.nil ?_
                        refine C.condF rfl ?_
                        refine C.skip ?_
                        refine C.seq ?_
                        refine C.region ?_
                        refine G.moveB rfl trivial rfl rfl rfl ?_
                        refine G.nil ?_
                        refine C.condB _ rfl ?_ ?_
                        · intro hc16
                          refine C.region ?_
                          refine G.moveI rfl trivial rfl rfl rfl ?_
                          refine G.add rfl trivial rfl rfl rfl rfl (by omega) ?_
                          refine G.assignI rfl trivial rfl rfl rfl ?_
                          refine G.nil ?_
                          refine C.region ?_
                          refine G.moveI rfl trivial rfl rfl rfl ?_
                          refine G.add rfl trivial rfl rfl rfl rfl (by omega) ?_
                          refine G.assignI rfl trivial rfl rfl rfl ?_
                          refine G.nil ?_
                          exact ⟨35 - (kk + 1), by omega, kk + 1, by omega, rfl, (by show Value.int .i64 _ = _; congr 1; omega), (by show Value.int .i64 (((countU (pg 1) (kk - 1) : Nat) : Int) + 1) = Value.int .i64 ((countU (pg 1) (kk + 1 - 1) : Nat) : Int); rw [hcs, hc16]; rfl), rfl, rfl, rfl, rfl, rfl, rfl, rfl, rfl, rfl⟩
                        · intro hc16
                          refine C.skip ?_
                          refine C.region ?_
                          refine G.moveI rfl trivial rfl rfl rfl ?_
                          refine G.add rfl trivial rfl rfl rfl rfl (by omega) ?_
                          refine G.assignI rfl trivial rfl rfl rfl ?_
                          refine G.nil ?_
                          exact ⟨35 - (kk + 1), by omega, kk + 1, by omega, rfl, (by show Value.int .i64 _ = _; congr 1; omega), (by show Value.int .i64 ((countU (pg 1) (kk - 1) : Nat) : Int) = Value.int .i64 ((countU (pg 1) (kk + 1 - 1) : Nat) : Int); rw [hcs, hc16]; rfl), rfl, rfl, rfl, rfl, rfl, rfl, rfl, rfl, rfl⟩
                      · intro hg194
                        refine G.skip rfl rfl rfl rfl rfl rfl ?_
                        refine G.skip rfl rfl rfl rfl rfl rfl ?_
                        refine G.skip rfl rfl rfl rfl rfl rfl ?_
                        first | refine G.pickT rfl trivial rfl rfl rfl rfl ?_ | refine G.pickF rfl trivial rfl rfl rfl rfl ?_
                        refine G.assignB rfl trivial rfl rfl rfl ?_
                        refine G.nil ?_
                        refine C.seq ?_
                        refine C.region ?_
                        refine G.moveP rfl trivial rfl rfl rfl ?_
                        refine G.makeInterface rfl trivial rfl rfl Try.underlying29 rfl ?_
                        refine G.moveI rfl trivial rfl rfl rfl ?_
                        refine G.call E15 rfl rfl trivial rfl rfl (used_spec W0 _ _ _ _ hA.us.len (aread_sheet W0 [_] [] bs pg sg hsg) ((kk : Int) - 1)) rfl ?_
                        rintro e L2 ⟨rfl, rfl⟩
                        have hhas := has_out (pg 1) (k := (kk : Int) - 1) (by omega)
                        rw [hhas] at hcs ⊢
                        refine G.moveU rfl trivial rfl rfl rfl ?_
                        refine G.extractL rfl trivial rfl rfl rfl rfl ?_
                        refine G.extractL rfl trivial rfl rfl rfl rfl ?_
                        refine G.assignB rfl trivial rfl rfl rfl ?_
                        refine G.assignI rfl trivial rfl rfl rfl ?_
                        refine G.nil ?_
                        refine C.seq ?_
                        refine C.seq ?_
                        refine C.region ?_
                        refine G.moveB rfl trivial rfl rfl rfl ?_
                        refine G.moveB rfl trivial rfl rfl rfl ?_
                        refine G.boolNe rfl trivial rfl rfl Try.underlying4 rfl rfl ?_
                        refine G.fix (d := 208) (v := .bool false) (rfl) ?_
                        refine G.moveB rfl trivial rfl rfl rfl ?_
                        refine G.moveI rfl ⟨_, rfl, rfl, rfl⟩ rfl rfl rfl ?_
                        refine G.bin rfl ⟨_, rfl, rfl, rfl⟩ rfl rfl rfl rfl rfl ?_
                        refine G.no (t := 211) rfl (by simp) ?_
                        first | refine G.pickT rfl trivial rfl rfl rfl rfl ?_ | refine G.pickF rfl trivial rfl rfl rfl rfl ?_
                        refine G.nil ?_
                        refine C.condF rfl ?_
                        refine C.skip ?_
                        refine C.seq ?_
                        refine C.region ?_
                        refine G.moveB rfl trivial rfl rfl rfl ?_
                        refine G.nil ?_
                        refine C.condF rfl ?_
                        refine C.skip ?_
                        refine C.region ?_
                        refine G.moveI rfl trivial rfl rfl rfl ?_
                        refine G.add rfl trivial rfl rfl rfl rfl (by omega) ?_
                        refine G.assignI rfl trivial rfl rfl rfl ?_
                        refine G.nil ?_
                        exact ⟨35 - (kk + 1), by omega, kk + 1, by omega, rfl, (by show Value.int .i64 _ = _; congr 1; omega), (by show Value.int .i64 ((countU (pg 1) (kk - 1) : Nat) : Int) = Value.int .i64 ((countU (pg 1) (kk + 1 - 1) : Nat) : Int); rw [hcs]; rfl), rfl, rfl, rfl, rfl, rfl, rfl, rfl, rfl, rfl⟩
                    · intro hg190
                      refine G.skip rfl rfl rfl rfl rfl rfl ?_
                      refine G.skip rfl rfl rfl rfl rfl rfl ?_
                      first | refine G.pickT rfl trivial rfl rfl rfl rfl ?_ | refine G.pickF rfl trivial rfl rfl rfl rfl ?_
                      refine G.moveB rfl trivial rfl rfl rfl ?_
                      refine G.skip rfl rfl rfl rfl rfl rfl ?_
                      refine G.skip rfl rfl rfl rfl rfl rfl ?_
                      refine G.skip rfl rfl rfl rfl rfl rfl ?_
                      first | refine G.pickT rfl trivial rfl rfl rfl rfl ?_ | refine G.pickF rfl trivial rfl rfl rfl rfl ?_
                      refine G.assignB rfl trivial rfl rfl rfl ?_
                      refine G.nil ?_
                      refine C.seq ?_
                      refine C.region ?_
                      refine G.moveP rfl trivial rfl rfl rfl ?_
                      refine G.makeInterface rfl trivial rfl rfl Try.underlying29 rfl ?_
                      refine G.moveI rfl trivial rfl rfl rfl ?_
                      refine G.call E15 rfl rfl trivial rfl rfl (used_spec W0 _ _ _ _ hA.us.len (aread_sheet W0 [_] [] bs pg sg hsg) ((kk : Int) - 1)) rfl ?_
                      rintro e L2 ⟨rfl, rfl⟩
                      have hhas := has_out (pg 1) (k := (kk : Int) - 1) (by omega)
                      rw [hhas] at hcs ⊢
                      refine G.moveU rfl trivial rfl rfl rfl ?_
                      refine G.extractL rfl trivial rfl rfl rfl rfl ?_
                      refine G.extractL rfl trivial rfl rfl rfl rfl ?_
                      refine G.assignB rfl trivial rfl rfl rfl ?_
                      refine G.assignI rfl trivial rfl rfl rfl ?_
                      refine G.nil ?_
                      refine C.seq ?_
                      refine C.seq ?_
                      refine C.region ?_
                      refine G.moveB rfl trivial rfl rfl rfl ?_
                      refine G.moveB rfl trivial rfl rfl rfl ?_
                      refine G.boolNe rfl trivial rfl rfl Try.underlying4 rfl rfl ?_
                      refine G.fix (d := 208) (v := .bool false) (rfl) ?_
                      refine G.moveB rfl trivial rfl rfl rfl ?_
                      refine G.moveI rfl ⟨_, rfl, rfl, rfl⟩ rfl rfl rfl ?_
                      refine G.bin rfl ⟨_, rfl, rfl, rfl⟩ rfl rfl rfl rfl rfl ?_
                      refine G.no (t := 211) rfl (by simp) ?_
                      first | refine G.pickT rfl trivial rfl rfl rfl rfl ?_ | refine G.pickF rfl trivial rfl rfl rfl rfl ?_
                      refine G.nil ?_
                      refine C.condF rfl ?_
                      refine C.skip ?_
                      refine C.seq ?_
                      refine C.region ?_
                      refine G.moveB rfl trivial rfl rfl rfl ?_
                      refine G.nil ?_
                      refine C.condF rfl ?_
                      refine C.skip ?_
                      refine C.region ?_
                      refine G.moveI rfl trivial rfl rfl rfl ?_
                      refine G.add rfl trivial rfl rfl rfl rfl (by omega) ?_
                      refine G.assignI rfl trivial rfl rfl rfl ?_
                      refine G.nil ?_
                      exact ⟨35 - (kk + 1), by omega, kk + 1, by omega, rfl, (by show Value.int .i64 _ = _; congr 1; omega), (by show Value.int .i64 ((countU (pg 1) (kk - 1) : Nat) : Int) = Value.int .i64 ((countU (pg 1) (kk + 1 - 1) : Nat) : Int); rw [hcs]; rfl), rfl, rfl, rfl, rfl, rfl, rfl, rfl, rfl, rfl⟩
                  · intro hc14
                    obtain rfl : kk = 35 := by omega
                    refine C.exit ?_
                    refine C.seq ?_
                    refine C.region ?_
                    refine G.moveP rfl trivial rfl rfl rfl ?_
                    refine G.makeInterface rfl trivial rfl rfl Try.underlying29 rfl ?_
                    refine G.call E16 rfl rfl trivial rfl rfl (count_spec W0 _ _ _ _ hA.us.len (aread_sheet W0 [_] [] bs pg sg hsg)) rfl ?_
                    rintro e L2 ⟨rfl, rfl⟩
                    rw [← countU_end]
                    refine G.moveU rfl trivial rfl rfl rfl ?_
                    refine G.extractL rfl trivial rfl rfl rfl rfl ?_
                    refine G.extractL rfl trivial rfl rfl rfl rfl ?_
                    refine G.assignI rfl trivial rfl rfl rfl ?_
                    refine G.assignI rfl trivial rfl rfl rfl ?_
                    refine G.nil ?_
                    refine C.seq ?_
                    refine C.region ?_
                    refine G.moveP rfl trivial rfl rfl rfl ?_
                    refine G.makeInterface rfl trivial rfl rfl Try.underlying29 rfl ?_
                    refine G.call E17 rfl rfl trivial rfl rfl (root_spec W0 _ _ _ _ hA.us.len (aread_sheet W0 [_] [] bs pg sg hsg)) rfl ?_
                    rintro e L2 ⟨rfl, rfl⟩
                    rw [hA.us.root, if_pos hA.root]
                    refine G.moveU rfl trivial rfl rfl rfl ?_
                    refine G.extractL rfl trivial rfl rfl rfl rfl ?_
                    refine G.extractL rfl trivial rfl rfl rfl rfl ?_
                    refine G.assignI rfl trivial rfl rfl rfl ?_
                    refine G.assignI rfl trivial rfl rfl rfl ?_
                    refine G.nil ?_
                    refine C.seq ?_
                    refine C.region ?_
                    refine G.moveI rfl trivial rfl rfl rfl ?_
                    refine G.moveI rfl trivial rfl rfl rfl ?_
                    refine G.bin rfl trivial rfl rfl rfl rfl rfl ?_
                    refine G.no (t := 230) rfl (by simp) ?_
                    refine G.moveB rfl trivial rfl rfl rfl ?_
                    refine G.moveI rfl ⟨_, rfl, rfl, rfl⟩ rfl rfl rfl ?_
                    refine G.bin rfl ⟨_, rfl, rfl, rfl⟩ rfl rfl rfl rfl rfl ?_
                    refine G.no (t := 233) rfl (by simp) ?_
                    first | refine G.pickT rfl trivial rfl rfl rfl rfl ?_ | refine G.pickF rfl trivial rfl rfl rfl rfl ?_
                    refine G.moveB rfl trivial rfl rfl rfl ?_
                    refine G.moveI rfl ⟨_, rfl, rfl, rfl⟩ rfl rfl rfl ?_
                    refine G.moveI rfl ⟨_, rfl, rfl, rfl⟩ rfl rfl rfl ?_
                    refine G.bin rfl ⟨_, rfl, rfl, rfl⟩ rfl rfl rfl rfl rfl ?_
                    refine G.no (t := 238) rfl (by simp) ?_
                    first | refine G.pickT rfl trivial rfl rfl rfl rfl ?_ | refine G.pickF rfl trivial rfl rfl rfl rfl ?_
                    refine G.moveB rfl trivial rfl rfl rfl ?_
                    refine G.moveI rfl ⟨_, rfl, rfl, rfl⟩ rfl rfl rfl ?_
                    refine G.bin rfl ⟨_, rfl, rfl, rfl⟩ rfl rfl rfl rfl rfl ?_
                    refine G.no (t := 242) rfl (by simp) ?_
                    first | refine G.pickT rfl trivial rfl rfl rfl rfl ?_ | refine G.pickF rfl trivial rfl rfl rfl rfl ?_
                    refine G.nil ?_
                    refine C.condF rfl ?_
                    refine C.skip ?_
                    refine C.region ?_
                    refine G.moveI rfl trivial rfl rfl rfl ?_
                    refine G.add rfl trivial rfl rfl rfl rfl (by omega) ?_
                    refine G.assignI rfl trivial rfl rfl rfl ?_
                    refine G.nil ?_
                    exact ⟨ls.length - (i + 1), by omega, i + 1, pg, sg, u, rr, U, by omega, hsg, hA, rfl, rfl, rfl, rfl, rfl, rfl, rfl, rfl, rfl, rfl⟩
                · intro hc10
                  refine C.skip ?_
                  refine C.seq ?_
                  refine C.region ?_
                  refine G.moveP rfl trivial rfl rfl rfl ?_
                  refine G.fieldAddr rfl trivial rfl rfl Try.underlying33 rfl I3 rfl rfl ?_
                  refine G.loadAt (by first | exact .here | exact .next .here | exact .next (.next .here) | exact .next (.next (.next .here)) | exact .next (.next (.next (.next .here))) | exact .next (.next (.next (.next (.next .here)))) | exact .next (.next (.next (.next (.next (.next .here))))) | exact .next (.next (.next (.next (.next (.next (.next .here)))))) | exact .in1 | exact .next .in1 | exact .next (.next .in1) | exact .next (.next (.next .in1)) | exact .next (.next (.next (.next .in1))) | exact .in2 | exact .next .in2 | exact .next (.next .in2) | exact .next (.next (.next .in2)) | exact .next (.next (.next (.next .in2))) | exact .app .here | exact .app (.next .here) | exact .app (.next (.next .here)) | exact .app (.next (.next (.next .here))) | exact .app (.next (.next (.next (.next .here)))) | exact .app (.next (.next (.next (.next (.next .here))))) | exact .app (.next (.next (.next (.next (.next (.next .here)))))) | exact .app (.next (.next (.next (.next (.next (.next (.next .here))))))) | exact .app .in1 | exact .app .in2 | exact .app (.next .in1) | exact .next (.app .in1) | exact .next (.next (.app .in1)) | exact .next (.app .here) | exact .next (.next (.app .here)) | exact .next (.next (.next (.app .here))) | exact .next (.next (.next (.next (.app .here))))) rfl trivial rfl rfl Try.underlying3 rfl rfl (by rfl) ?_
                  refine G.call E13 rfl rfl trivial rfl rfl (free_none W0 [_, _] [] bs pg sg hsg hA.us.len j (hhas.trans hc10)) rfl ?_
                  rintro e L2 ⟨rfl, rfl⟩
                  refine G.moveI rfl trivial rfl rfl rfl ?_
                  refine G.bin rfl trivial rfl rfl rfl rfl rfl ?_
                  refine G.no (t := 183) rfl (by simp) ?_
                  refine G.nil ?_
                  refine C.condF rfl ?_
                  refine C.skip ?_
                  refine C.seq ?_
                  refine C.region ?_
                  obtain ⟨rr, hrr⟩ : ∃ rr : Nat, rr = r := ⟨_, rfl⟩
                  rw [← hrr] at hA
                  refine G.fix (d := 11) (v := .int .i64 (rr : Int)) (by show Value.int .i64 (r : Int) = _; rw [hrr]) ?_
                  refine G.assignI rfl trivial rfl rfl rfl ?_
                  refine G.less (fun _ h => h.tail) ?_
                  refine G.nil ?_
                  refine C.seq ?_
                  refine C.seq ?_
                  refine C.region ?_
                  refine G.assignI rfl trivial rfl rfl rfl ?_
                  refine G.nil ?_
                  refine C.block ?_
                  refine C.loop (fun m F D' L' => ∃ kk : Nat, kk ≤ 35 ∧ m = 35 - kk ∧ F 24 = .int .i64 ((kk : Int) - 1) ∧ F 23 = .int .i64 (countU (pg 1) (kk - 1) : Nat) ∧ F 12 = .int .i64 i ∧ F 11 = .int .i64 (rr : Int) ∧ F 10 = ptr b10 ∧ F 9 = ptr bs ∧ F 7 = .slice (some ⟨b39, 0, none⟩) 256 256 ∧ F 0 = .int .u8 (b.toNat : Int) ∧ F 1 = .slice (some ⟨p1, o1, none⟩) ls.length c1 ∧ D' = [] ∧ [(b10, .row (U.map Value.bool) 31 32)] :: sg :: [] = L') ⟨_, ⟨0, by omega, rfl, rfl, rfl, rfl, rfl, rfl, rfl, rfl, rfl, rfl, rfl, rfl⟩⟩ ?_
                  rintro m F D' L' ⟨kk, hkk, rfl, h24, h23, h12, h11, h10, h9, h7, h0', h1', rfl, rfl⟩
                  refine C.fix (d := 24) h24 ?_
                  refine C.fix (d := 23) h23 ?_
                  refine C.fix (d := 12) h12 ?_
                  refine C.fix (d := 11) h11 ?_
                  refine C.fix (d := 10) h10 ?_
                  refine C.fix (d := 9) h9 ?_
                  refine C.fix (d := 7) h7 ?_
                  refine C.fix (d := 0) h0' ?_
                  refine C.fix (d := 1) h1' ?_
                  refine C.seq ?_
                  refine C.seq ?_
                  refine C.region ?_
                  refine G.moveI rfl trivial rfl rfl rfl ?_
                  refine G.bin rfl trivial rfl rfl rfl rfl rfl ?_
                  refine G.nil ?_
                  refine C.cond _ rfl ?_ ?_
                  · intro hc14
                    have hcs := cnt_step (pg 1) kk
                    have hcl := countU_le (pg 1) (kk - 1)
                    refine C.skip ?_
                    refine C.seq ?_
                    refine C.block ?_
                    refine C.seq ?_
                    refine C.region ?_
                    refine G.moveI rfl trivial rfl rfl rfl ?_
                    refine G.bin rfl trivial rfl rfl rfl rfl rfl ?_
                    refine G.moveB rfl trivial rfl rfl rfl ?_
                    refine G.fork (t := 190) _ rfl ?_ ?_
                    · intro hg190
                      refine G.moveI rfl ⟨_, rfl, rfl, rfl⟩ rfl rfl rfl ?_
                      refine G.bin rfl ⟨_, rfl, rfl, rfl⟩ rfl rfl rfl rfl rfl ?_
                      first | refine G.pickT rfl trivial rfl rfl rfl rfl ?_ | refine G.pickF rfl trivial rfl rfl rfl rfl ?_
                      refine G.moveB rfl trivial rfl rfl rfl ?_
                      refine G.fork (t := 194) _ rfl ?_ ?_
                      · intro hg194
                        refine G.moveI rfl ⟨_, rfl, rfl, rfl⟩ rfl rfl rfl ?_
                        obtain ⟨ux, hux, hhas⟩ := hA.has (k := (kk : Int) - 1) (by omega)
                        refine G.indexAddrArr rfl ⟨_, rfl, rfl, rfl⟩ rfl rfl Try.underlying31 I4 rfl rfl (by omega) ?_
                        refine G.loadAt (v := .bool ux) .here rfl ⟨_, rfl, rfl, rfl⟩ rfl rfl Try.underlying4 rfl rfl (by rw [show 0 + ((kk : Int) - 1).toNat * 1 = ((kk : Int) - 1).toNat by omega]; exact boolsV_at hux) ?_
                        first | refine G.pickT rfl trivial rfl rfl rfl rfl ?_ | refine G.pickF rfl trivial rfl rfl rfl rfl ?_
                        refine G.assignB rfl trivial rfl rfl rfl ?_
                        refine G.nil ?_
                        refine C.seq ?_
                        refine C.region ?_
                        refine G.moveP rfl trivial rfl rfl rfl ?_
                        refine G.makeInterface rfl trivial rfl rfl Try.underlying29 rfl ?_
                        refine G.moveI rfl trivial rfl rfl rfl ?_
                        refine G.call E15 rfl rfl trivial rfl rfl (used_spec W0 _ _ _ _ hA.us.len (aread_sheet W0 [_] [] bs pg sg hsg) ((kk : Int) - 1)) rfl ?_
                        rintro e L2 ⟨rfl, rfl⟩
                        rw [hhas] at hcs ⊢
                        refine G.moveU rfl trivial rfl rfl rfl ?_
                        refine G.extractL rfl trivial rfl rfl rfl rfl ?_
                        refine G.extractL rfl trivial rfl rfl rfl rfl ?_
                        refine G.assignB rfl trivial rfl rfl rfl ?_
                        refine G.assignI rfl trivial rfl rfl rfl ?_
                        refine G.nil ?_
                        refine C.seq ?_
                        refine C.seq ?_
                        refine C.region ?_
                        refine G.moveB rfl trivial rfl rfl rfl ?_
                        refine G.moveB rfl trivial rfl rfl rfl ?_
                        refine G.boolNe rfl trivial rfl rfl Try.underlying4 rfl rfl ?_
                        refine G.fix (d := 208) (v := .bool false) (by show Value.bool (ux != ux) = _; cases ux <;> rfl) ?_
                        refine G.moveB rfl trivial rfl rfl rfl ?_
                        refine G.moveI rfl ⟨_, rfl, rfl, rfl⟩ rfl rfl rfl ?_
                        refine G.bin rfl ⟨_, rfl, rfl, rfl⟩ rfl rfl rfl rfl rfl ?_
                        refine G.no (t := 211) rfl (by simp) ?_
                        first | refine G.pickT rfl trivial rfl rfl rfl rfl ?_ | refine G.pickF rfl trivial rfl rfl rfl rfl ?_
                        refine G.nil ?_
                        refine C.condF rfl ?_
                        refine C.skip ?_
                        refine C.seq ?_
                        refine C.region ?_
                        refine G.moveB rfl trivial rfl rfl rfl ?_
                        refine G.nil ?_
                        refine C.condB _ rfl ?_ ?_
                        · intro hc16
                          refine C.region ?_
                          refine G.moveI rfl trivial rfl rfl rfl ?_
                          refine G.add rfl trivial rfl rfl rfl rfl (by omega) ?_
                          refine G.assignI rfl trivial rfl rfl rfl ?_
                          refine G.nil ?_
                          refine C.region ?_
                          refine G.moveI rfl trivial rfl rfl rfl ?_
                          refine G.add rfl trivial rfl rfl rfl rfl (by omega) ?_
                          refine G.assignI rfl trivial rfl rfl rfl ?_
                          refine G.nil ?_
                          exact ⟨35 - (kk + 1), by omega, kk + 1, by omega, rfl, (by show Value.int .i64 _ = _; congr 1; omega), (by show Value.int .i64 (((countU (pg 1) (kk - 1) : Nat) : Int) + 1) = Value.int .i64 ((countU (pg 1) (kk + 1 - 1) : Nat) : Int); rw [hcs, hc16]; rfl), rfl, rfl, rfl, rfl, rfl, rfl, rfl, rfl, rfl⟩
                        · intro hc16
                          refine C.skip ?_
                          refine C.region ?_
                          refine G.moveI rfl trivial rfl rfl rfl ?_
                          refine G.add rfl trivial rfl rfl rfl rfl (by omega) ?_
                          refine G.assignI rfl trivial rfl rfl rfl ?_
                          refine G.nil ?_
                          exact ⟨35 - (kk + 1), by omega, kk + 1, by omega, rfl, (by show Value.int .i64 _ = _; congr 1; omega), (by show Value.int .i64 ((countU (pg 1) (kk - 1) : Nat) : Int) = Value.int .i64 ((countU (pg 1) (kk + 1 - 1) : Nat) : Int); rw [hcs, hc16]; rfl), rfl, rfl, rfl, rfl, rfl, rfl, rfl, rfl, rfl⟩
                      · intro hg194
                        refine G.skip rfl rfl rfl rfl rfl rfl ?_
                        refine G.skip rfl rfl rfl rfl rfl rfl ?_
                        refine G.skip rfl rfl rfl rfl rfl rfl ?_
                        first | refine G.pickT rfl trivial rfl rfl rfl rfl ?_ | refine G.pickF rfl trivial rfl rfl rfl rfl ?_
                        refine G.assignB rfl trivial rfl rfl rfl ?_
                        refine G.nil ?_
                        refine C.seq ?_
                        refine C.region ?_
                        refine G.moveP rfl trivial rfl rfl rfl ?_
                        refine G.makeInterface rfl trivial rfl rfl Try.underlying29 rfl ?_
                        refine G.moveI rfl trivial rfl rfl rfl ?_
                        refine G.call E15 rfl rfl trivial rfl rfl (used_spec W0 _ _ _ _ hA.us.len (aread_sheet W0 [_] [] bs pg sg hsg) ((kk : Int) - 1)) rfl ?_
                        rintro e L2 ⟨rfl, rfl⟩
                        have hhas := has_out (pg 1) (k := (kk : Int) - 1) (by omega)
                        rw [hhas] at hcs ⊢
                        refine G.moveU rfl trivial rfl rfl rfl ?_
                        refine G.extractL rfl trivial rfl rfl rfl rfl ?_
                        refine G.extractL rfl trivial rfl rfl rfl rfl ?_
                        refine G.assignB rfl trivial rfl rfl rfl ?_
                        refine G.assignI rfl trivial rfl rfl rfl ?_
                        refine G.nil ?_
                        refine C.seq ?_
                        refine C.seq ?_
                        refine C.region ?_
                        refine G.moveB rfl trivial rfl rfl rfl ?_
                        refine G.moveB rfl trivial rfl rfl rfl ?_
                        refine G.boolNe rfl trivial rfl rfl Try.underlying4 rfl rfl ?_
                        refine G.fix (d := 208) (v := .bool false) (rfl) ?_
                        refine G.moveB rfl trivial rfl rfl rfl ?_
                        refine G.moveI rfl ⟨_, rfl, rfl, rfl⟩ rfl rfl rfl ?_
                        refine G.bin rfl ⟨_, rfl, rfl, rfl⟩ rfl rfl rfl rfl rfl ?_
                        refine G.no (t := 211) rfl (by simp) ?_
                        first | refine G.pickT rfl trivial rfl rfl rfl rfl ?_ | refine G.pickF rfl trivial rfl rfl rfl rfl ?_
                        refine G.nil ?_
                        refine C.condF rfl ?_
                        refine C.skip ?_
                        refine C.seq ?_
                        refine C.region ?_
                        refine G.moveB rfl trivial rfl rfl rfl ?_
                        refine G.nil ?_
                        refine C.condF rfl ?_
                        refine C.skip ?_
                        refine C.region ?_
                        refine G.moveI rfl trivial rfl rfl rfl ?_
                        refine G.add rfl trivial rfl rfl rfl rfl (by omega) ?_
                        refine G.assignI rfl trivial rfl rfl rfl ?_
                        refine G.nil ?_
                        exact ⟨35 - (kk + 1), by omega, kk + 1, by omega, rfl, (by show Value.int .i64 _ = _; congr 1; omega), (by show Value.int .i64 ((countU (pg 1) (kk - 1) : Nat) : Int) = Value.int .i64 ((countU (pg 1) (kk + 1 - 1) : Nat) : Int); rw [hcs]; rfl), rfl, rfl, rfl, rfl, rfl, rfl, rfl, rfl, rfl⟩
                    · intro hg190
                      refine G.skip rfl rfl rfl rfl rfl rfl ?_
                      refine G.skip rfl rfl rfl rfl rfl rfl ?_
                      first | refine G.pickT rfl trivial rfl rfl rfl rfl ?_ | refine G.pickF rfl trivial rfl rfl rfl rfl ?_
                      refine G.moveB rfl trivial rfl rfl rfl ?_
                      refine G.skip rfl rfl rfl rfl rfl rfl ?_
                      refine G.skip rfl rfl rfl rfl rfl rfl ?_
                      refine G.skip rfl rfl rfl rfl rfl rfl ?_
                      first | refine G.pickT rfl trivial rfl rfl rfl rfl ?_ | refine G.pickF rfl trivial rfl rfl rfl rfl ?_
                      refine G.assignB rfl trivial rfl rfl rfl ?_
                      refine G.nil ?_
                      refine C.seq ?_
                      refine C.region ?_
                      refine G.moveP rfl trivial rfl rfl rfl ?_
                      refine G.makeInterface rfl trivial rfl rfl Try.underlying29 rfl ?_
                      refine G.moveI rfl trivial rfl rfl rfl ?_
                      refine G.call E15 rfl rfl trivial rfl rfl (used_spec W0 _ _ _ _ hA.us.len (aread_sheet W0 [_] [] bs pg sg hsg) ((kk : Int) - 1)) rfl ?_
                      rintro e L2 ⟨rfl, rfl⟩
                      have hhas := has_out (pg 1) (k := (kk : Int) - 1) (by omega)
                      rw [hhas] at hcs ⊢
                      refine G.moveU rfl trivial rfl rfl rfl ?_
                      refine G.extractL rfl trivial rfl rfl rfl rfl ?_
                      refine G.extractL rfl trivial rfl rfl rfl rfl ?_
                      refine G.assignB rfl trivial rfl rfl rfl ?_
                      refine G.assignI rfl trivial rfl rfl rfl ?_
                      refine G.nil ?_
                      refine C.seq ?_
                      refine C.seq ?_
                      refine C.region ?_
                      refine G.moveB rfl trivial rfl rfl rfl ?_
                      refine G.moveB rfl trivial rfl rfl rfl ?_
                      refine G.boolNe rfl trivial rfl rfl Try.underlying4 rfl rfl ?_
                      refine G.fix (d := 208) (v := .bool false) (rfl) ?_
                      refine G.moveB rfl trivial rfl rfl rfl ?_
                      refine G.moveI rfl ⟨_, rfl, rfl, rfl⟩ rfl rfl rfl ?_
                      refine G.bin rfl ⟨_, rfl, rfl, rfl⟩ rfl rfl rfl rfl rfl ?_
                      refine G.no (t := 211) rfl (by simp) ?_
                      first | refine G.pickT rfl trivial rfl rfl rfl rfl ?_ | refine G.pickF rfl trivial rfl rfl rfl rfl ?_
                      refine G.nil ?_
                      refine C.condF rfl ?_
                      refine C.skip ?_
                      refine C.seq ?_
                      refine C.region ?_
                      refine G.moveB rfl trivial rfl rfl rfl ?_
                      refine G.nil ?_
                      refine C.condF rfl ?_
                      refine C.skip ?_
                      refine C.region ?_
                      refine G.moveI rfl trivial rfl rfl rfl ?_
                      refine G.add rfl trivial rfl rfl rfl rfl (by omega) ?_
                      refine G.assignI rfl trivial rfl rfl rfl ?_
                      refine G.nil ?_
                      exact ⟨35 - (kk + 1), by omega, kk + 1, by omega, rfl, (by show Value.int .i64 _ = _; congr 1; omega), (by show Value.int .i64 ((countU (pg 1) (kk - 1) : Nat) : Int) = Value.int .i64 ((countU (pg 1) (kk + 1 - 1) : Nat) : Int); rw [hcs]; rfl), rfl, rfl, rfl, rfl, rfl, rfl, rfl, rfl, rfl⟩
                  · intro hc14
                    obtain rfl : kk = 35 := by omega
                    refine C.exit ?_
                    refine C.seq ?_
                    refine C.region ?_
                    refine G.moveP rfl trivial rfl rfl rfl ?_
                    refine G.makeInterface rfl trivial rfl rfl Try.underlying29 rfl ?_
                    refine G.call E16 rfl rfl trivial rfl rfl (count_spec W0 _ _ _ _ hA.us.len (aread_sheet W0 [_] [] bs pg sg hsg)) rfl ?_
                    rintro e L2 ⟨rfl, rfl⟩
                    rw [← countU_end]
                    refine G.moveU rfl trivial rfl rfl rfl ?_
                    refine G.extractL rfl trivial rfl rfl rfl rfl ?_
                    refine G.extractL rfl trivial rfl rfl rfl rfl ?_
                    refine G.assignI rfl trivial rfl rfl rfl ?_
                    refine G.assignI rfl trivial rfl rfl rfl ?_
                    refine G.nil ?_
                    refine C.seq ?_
                    refine C.region ?_
                    refine G.moveP rfl trivial rfl rfl rfl ?_
                    refine G.makeInterface rfl trivial rfl rfl Try.underlying29 rfl ?_
                    refine G.call E17 rfl rfl trivial rfl rfl (root_spec W0 _ _ _ _ hA.us.len (aread_sheet W0 [_] [] bs pg sg hsg)) rfl ?_
                    rintro e L2 ⟨rfl, rfl⟩
                    rw [hA.us.root, if_pos hA.root]
                    refine G.moveU rfl trivial rfl rfl rfl ?_
                    refine G.extractL rfl trivial rfl rfl rfl rfl ?_
                    refine G.extractL rfl trivial rfl rfl rfl rfl ?_
                    refine G.assignI rfl trivial rfl rfl rfl ?_
                    refine G.assignI rfl trivial rfl rfl rfl ?_
                    refine G.nil ?_
                    refine C.seq ?_
                    refine C.region ?_
                    refine G.moveI rfl trivial rfl rfl rfl ?_
                    refine G.moveI rfl trivial rfl rfl rfl ?_
                    refine G.bin rfl trivial rfl rfl rfl rfl rfl ?_
                    refine G.no (t := 230) rfl (by simp) ?_
                    refine G.moveB rfl trivial rfl rfl rfl ?_
                    refine G.moveI rfl ⟨_, rfl, rfl, rfl⟩ rfl rfl rfl ?_
                    refine G.bin rfl ⟨_, rfl, rfl, rfl⟩ rfl rfl rfl rfl rfl ?_
                    refine G.no (t := 233) rfl (by simp) ?_
                    first | refine G.pickT rfl trivial rfl rfl rfl rfl ?_ | refine G.pickF rfl trivial rfl rfl rfl rfl ?_
                    refine G.moveB rfl trivial rfl rfl rfl ?_
                    refine G.moveI rfl ⟨_, rfl, rfl, rfl⟩ rfl rfl rfl ?_
                    refine G.moveI rfl ⟨_, rfl, rfl, rfl⟩ rfl rfl rfl ?_
                    refine G.bin rfl ⟨_, rfl, rfl, rfl⟩ rfl rfl rfl rfl rfl ?_
                    refine G.no (t := 238) rfl (by simp) ?_
                    first | refine G.pickT rfl trivial rfl rfl rfl rfl ?_ | refine G.pickF rfl trivial rfl rfl rfl rfl ?_
                    refine G.moveB rfl trivial rfl rfl rfl ?_
                    refine G.moveI rfl ⟨_, rfl, rfl, rfl⟩ rfl rfl rfl ?_
                    refine G.bin rfl ⟨_, rfl, rfl, rfl⟩ rfl rfl rfl rfl rfl ?_
                    refine G.no (t := 242) rfl (by simp) ?_
                    first | refine G.pickT rfl trivial rfl rfl rfl rfl ?_ | refine G.pickF rfl trivial rfl rfl rfl rfl ?_
                    refine G.nil ?_
                    refine C.condF rfl ?_
                    refine C.skip ?_
                    refine C.region ?_
                    refine G.moveI rfl trivial rfl rfl rfl ?_
                    refine G.add rfl trivial rfl rfl rfl rfl (by omega) ?_
                    refine G.assignI rfl trivial rfl rfl rfl ?_
                    refine G.nil ?_
                    exact ⟨ls.length - (i + 1), by omega, i + 1, pg, sg, u, rr, U, by omega, hsg, hA, rfl, rfl, rfl, rfl, rfl, rfl, rfl, rfl, rfl, rfl⟩
              · intro hg168
                refine G.skip rfl rfl rfl rfl rfl rfl ?_
                refine G.skip rfl rfl rfl rfl rfl rfl ?_
                refine G.skip rfl rfl rfl rfl rfl rfl ?_
                refine G.skip rfl rfl rfl rfl rfl rfl ?_
                first | refine G.pickT rfl trivial rfl rfl rfl rfl ?_ | refine G.pickF rfl trivial rfl rfl rfl rfl ?_
                refine G.assignB rfl trivial rfl rfl rfl ?_
                refine G.nil ?_
                refine C.seq ?_
                refine C.region ?_
                refine G.assignI rfl trivial rfl rfl rfl ?_
                refine G.nil ?_
                refine C.seq ?_
                refine C.seq ?_
                refine C.region ?_
                refine G.moveB rfl trivial rfl rfl rfl ?_
                refine G.nil ?_
                refine C.condF rfl ?_
                refine C.skip ?_
                refine C.seq ?_
                refine C.region ?_
                refine G.moveP rfl trivial rfl rfl rfl ?_
                refine G.fieldAddr rfl trivial rfl rfl Try.underlying33 rfl I3 rfl rfl ?_
                refine G.loadAt (by first | exact .here | exact .next .here | exact .next (.next .here) | exact .next (.next (.next .here)) | exact .next (.next (.next (.next .here))) | exact .next (.next (.next (.next (.next .here)))) | exact .next (.next (.next (.next (.next (.next .here))))) | exact .next (.next (.next (.next (.next (.next (.next .here)))))) | exact .in1 | exact .next .in1 | exact .next (.next .in1) | exact .next (.next (.next .in1)) | exact .next (.next (.next (.next .in1))) | exact .in2 | exact .next .in2 | exact .next (.next .in2) | exact .next (.next (.next .in2)) | exact .next (.next (.next (.next .in2))) | exact .app .here | exact .app (.next .here) | exact .app (.next (.next .here)) | exact .app (.next (.next (.next .here))) | exact .app (.next (.next (.next (.next .here)))) | exact .app (.next (.next (.next (.next (.next .here))))) | exact .app (.next (.next (.next (.next (.next (.next .here)))))) | exact .app (.next (.next (.next (.next (.next (.next (.next .here))))))) | exact .app .in1 | exact .app .in2 | exact .app (.next .in1) | exact .next (.app .in1) | exact .next (.next (.app .in1)) | exact .next (.app .here) | exact .next (.next (.app .here)) | exact .next (.next (.next (.app .here))) | exact .next (.next (.next (.next (.app .here))))) rfl trivial rfl rfl Try.underlying3 rfl rfl (by rfl) ?_
                refine G.call E13 rfl rfl trivial rfl rfl (free_none W0 [_, _] [] bs pg sg hsg hA.us.len no (has_out _ (by omega))) rfl ?_
                rintro e L2 ⟨rfl, rfl⟩
                refine G.moveI rfl trivial rfl rfl rfl ?_
                refine G.bin rfl trivial rfl rfl rfl rfl rfl ?_
                refine G.no (t := 183) rfl (by simp) ?_
                refine G.nil ?_
                refine C.condF rfl ?_
                refine C.skip ?_
                refine C.seq ?_
                refine C.region ?_
                obtain ⟨rr, hrr⟩ : ∃ rr : Nat, rr = r := ⟨_, rfl⟩
                rw [← hrr] at hA
                refine G.fix (d := 11) (v := .int .i64 (rr : Int)) (by show Value.int .i64 (r : Int) = _; rw [hrr]) ?_
                refine G.assignI rfl trivial rfl rfl rfl ?_
                refine G.less (fun _ h => h.tail) ?_
                refine G.nil ?_
                refine C.seq ?_
                refine C.seq ?_
                refine C.region ?_
                refine G.assignI rfl trivial rfl rfl rfl ?_
                refine G.nil ?_
                refine C.block ?_
                refine C.loop (fun m F D' L' => ∃ kk : Nat, kk ≤ 35 ∧ m = 35 - kk ∧ F 24 = .int .i64 ((kk : Int) - 1) ∧ F 23 = .int .i64 (countU (pg 1) (kk - 1) : Nat) ∧ F 12 = .int .i64 i ∧ F 11 = .int .i64 (rr : Int) ∧ F 10 = ptr b10 ∧ F 9 = ptr bs ∧ F 7 = .slice (some ⟨b39, 0, none⟩) 256 256 ∧ F 0 = .int .u8 (b.toNat : Int) ∧ F 1 = .slice (some ⟨p1, o1, none⟩) ls.length c1 ∧ D' = [] ∧ [(b10, .row (U.map Value.bool) 31 32)] :: sg :: [] = L') ⟨_, ⟨0, by omega, rfl, rfl, rfl, rfl, rfl, rfl, rfl, rfl, rfl, rfl, rfl, rfl⟩⟩ ?_
                rintro m F D' L' ⟨kk, hkk, rfl, h24, h23, h12, h11, h10, h9, h7, h0', h1', rfl, rfl⟩
                refine C.fix (d := 24) h24 ?_
                refine C.fix (d := 23) h23 ?_
                refine C.fix (d := 12) h12 ?_
                refine C.fix (d := 11) h11 ?_
                refine C.fix (d := 10) h10 ?_
                refine C.fix (d := 9) h9 ?_
                refine C.fix (d := 7) h7 ?_
                refine C.fix (d := 0) h0' ?_
                refine C.fix (d := 1) h1' ?_
                refine C.seq ?_
                refine C.seq ?_
                refine C.region ?_
                refine G.moveI rfl trivial rfl rfl rfl ?_
                refine G.bin rfl trivial rfl rfl rfl rfl rfl ?_
                refine G.nil ?_
                refine C.cond _ rfl ?_ ?_
                · intro hc14
                  have hcs := cnt_step (pg 1) kk
                  have hcl := countU_le (pg 1) (kk - 1)
                  refine C.skip ?_
                  refine C.seq ?_
                  refine C.block ?_
                  refine C.seq ?_
                  refine C.region ?_
                  refine G.moveI rfl trivial rfl rfl rfl ?_
                  refine G.bin rfl trivial rfl rfl rfl rfl rfl ?_
                  refine G.moveB rfl trivial rfl rfl rfl ?_
                  refine G.fork (t := 190) _ rfl ?_ ?_
                  · intro hg190
                    refine G.moveI rfl ⟨_, rfl, rfl, rfl⟩ rfl rfl rfl ?_
                    refine G.bin rfl ⟨_, rfl, rfl, rfl⟩ rfl rfl rfl rfl rfl ?_
                    first | refine G.pickT rfl trivial rfl rfl rfl rfl ?_ | refine G.pickF rfl trivial rfl rfl rfl rfl ?_
                    refine G.moveB rfl trivial rfl rfl rfl ?_
                    refine G.fork (t := 194) _ rfl ?_ ?_
                    · intro hg194
                      refine G.moveI rfl ⟨_, rfl, rfl, rfl⟩ rfl rfl rfl ?_
                      obtain ⟨ux, hux, hhas⟩ := hA.has (k := (kk : Int) - 1) (by omega)
                      refine G.indexAddrArr rfl ⟨_, rfl, rfl, rfl⟩ rfl rfl Try.underlying31 I4 rfl rfl (by omega) ?_
                      refine G.loadAt (v := .bool ux) .here rfl ⟨_, rfl, rfl, rfl⟩ rfl rfl Try.underlying4 rfl rfl (by rw [show 0 + ((kk : Int) - 1).toNat * 1 = ((kk : Int) - 1).toNat by omega]; exact boolsV_at hux) ?_
                      first | refine G.pickT rfl trivial rfl rfl rfl rfl ?_ | refine G.pickF rfl trivial rfl rfl rfl rfl ?_
                      refine G.assignB rfl trivial rfl rfl rfl ?_
                      refine G.nil ?_
                      refine C.seq ?_
                      refine C.region ?_
                      refine G.moveP rfl trivial rfl rfl rfl ?_
                      refine G.makeInterface rfl trivial rfl rfl Try.underlying29 rfl ?_
                      refine G.moveI rfl trivial rfl rfl rfl ?_
                      refine G.call E15 rfl rfl trivial rfl rfl (used_spec W0 _ _ _ _ hA.us.len (aread_sheet W0 [_] [] bs pg sg hsg) ((kk : Int) - 1)) rfl ?_
                      rintro e L2 ⟨rfl, rfl⟩
                      rw [hhas] at hcs ⊢
                      refine G.moveU rfl trivial rfl rfl rfl ?_
                      refine G.extractL rfl trivial rfl rfl rfl rfl ?_
                      refine G.extractL rfl trivial rfl rfl rfl rfl ?_
                      refine G.assignB rfl trivial rfl rfl rfl ?_
                      refine G.assignI rfl trivial rfl rfl rfl ?_
                      refine G.nil ?_
                      refine C.seq ?_
                      refine C.seq ?_
                      refine C.region ?_
                      refine G.moveB rfl trivial rfl rfl rfl ?_
                      refine G.moveB rfl trivial rfl rfl rfl ?_
                      refine G.boolNe rfl trivial rfl rfl Try.underlying4 rfl rfl ?_
                      refine G.fix (d := 208) (v := .bool false) (by show Value.bool (ux != ux) = _; cases ux <;> rfl) ?_
                      refine G.moveB rfl trivial rfl rfl rfl ?_
                      refine G.moveI rfl ⟨_, rfl, rfl, rfl⟩ rfl rfl rfl ?_
                      refine G.bin rfl ⟨_, rfl, rfl, rfl⟩ rfl rfl rfl rfl rfl ?_
                      refine G.no (t := 211) rfl (by simp) ?_
                      first | refine G.pickT rfl trivial rfl rfl rfl rfl ?_ | refine G.pickF rfl trivial rfl rfl rfl rfl ?_
                      refine G.nil ?_
                      refine C.condF rfl ?_
                      refine C.skip ?_
                      refine C.seq ?_
                      refine C.region ?_
                      refine G.moveB rfl trivial rfl rfl rfl ?_
                      refine G.nil ?_
                      refine C.condB _ rfl ?_ ?_
                      · intro hc16
                        refine C.region ?_
                        refine G.moveI rfl trivial rfl rfl rfl ?_
                        refine G.add rfl trivial rfl rfl rfl rfl (by omega) ?_
                        refine G.assignI rfl trivial rfl rfl rfl ?_
                        refine G.nil ?_
                        refine C.region ?_
                        refine G.moveI rfl trivial rfl rfl rfl ?_
                        refine G.add rfl trivial rfl rfl rfl rfl (by omega) ?_
                        refine G.assignI rfl trivial rfl rfl rfl ?_
                        refine G.nil ?_
                        exact ⟨35 - (kk + 1), by omega, kk + 1, by omega, rfl, (by show Value.int .i64 _ = _; congr 1; omega), (by show Value.int .i64 (((countU (pg 1) (kk - 1) : Nat) : Int) + 1) = Value.int .i64 ((countU (pg 1) (kk + 1 - 1) : Nat) : Int); rw [hcs, hc16]; rfl), rfl, rfl, rfl, rfl, rfl, rfl, rfl, rfl, rfl⟩
                      · intro hc16
                        refine C.skip ?_
                        refine C.region ?_
                        refine G.moveI rfl trivial rfl rfl rfl ?_
                        refine G.add rfl trivial rfl rfl rfl rfl (by omega) ?_
                        refine G.assignI rfl trivial rfl rfl rfl ?_
                        refine G.nil ?_
                        exact ⟨35 - (kk + 1), by omega, kk + 1, by omega, rfl, (by show Value.int .i64 _ = _; congr 1; omega), (by show Value.int .i64 ((countU (pg 1) (kk - 1) : Nat) : Int) = Value.int .i64 ((countU (pg 1) (kk + 1 - 1) : Nat) : Int); rw [hcs, hc16]; rfl), rfl, rfl, rfl, rfl, rfl, rfl, rfl, rfl, rfl⟩
                    · intro hg194
                      refine G.skip rfl rfl rfl rfl rfl rfl ?_
                      refine G.skip rfl rfl rfl rfl rfl rfl ?_
                      refine G.skip rfl rfl rfl rfl rfl rfl ?_
                      first | refine G.pickT rfl trivial rfl rfl rfl rfl ?_ | refine G.pickF rfl trivial rfl rfl rfl rfl ?_
                      refine G.assignB rfl trivial rfl rfl rfl ?_
                      refine G.nil ?_
                      refine C.seq ?_
                      refine C.region ?_
                      refine G.moveP rfl trivial rfl rfl rfl ?_
                      refine G.makeInterface rfl trivial rfl rfl Try.underlying29 rfl ?_
                      refine G.moveI rfl trivial rfl rfl rfl ?_
                      refine G.call E15 rfl rfl trivial rfl rfl (used_spec W0 _ _ _ _ hA.us.len (aread_sheet W0 [_] [] bs pg sg hsg) ((kk : Int) - 1)) rfl ?_
                      rintro e L2 ⟨rfl, rfl⟩
                      have hhas := has_out (pg 1) (k := (kk : Int) - 1) (by omega)
                      rw [hhas] at hcs ⊢
                      refine G.moveU rfl trivial rfl rfl rfl ?_
                      refine G.extractL rfl trivial rfl rfl rfl rfl ?_
                      refine G.extractL rfl trivial rfl rfl rfl rfl ?_
                      refine G.assignB rfl trivial rfl rfl rfl ?_
                      refine G.assignI rfl trivial rfl rfl rfl ?_
                      refine G.nil ?_
                      refine C.seq ?_
                      refine C.seq ?_
                      refine C.region ?_
                      refine G.moveB rfl trivial rfl rfl rfl ?_
                      refine G.moveB rfl trivial rfl rfl rfl ?_
                      refine G.boolNe rfl trivial rfl rfl Try.underlying4 rfl rfl ?_
                      refine G.fix (d := 208) (v := .bool false) (rfl) ?_
                      refine G.moveB rfl trivial rfl rfl rfl ?_
                      refine G.moveI rfl ⟨_, rfl, rfl, rfl⟩ rfl rfl rfl ?_
                      refine G.bin rfl ⟨_, rfl, rfl, rfl⟩ rfl rfl rfl rfl rfl ?_
                      refine G.no (t := 211) rfl (by simp) ?_
                      first | refine G.pickT rfl trivial rfl rfl rfl rfl ?_ | refine G.pickF rfl trivial rfl rfl rfl rfl ?_
                      refine G.nil ?_
                      refine C.condF rfl ?_
                      refine C.skip ?_
                      refine C.seq ?_
                      refine C.region ?_
                      refine G.moveB rfl trivial rfl rfl rfl ?_
                      refine G.nil ?_
                      refine C.condF rfl ?_
                      refine C.skip ?_
                      refine C.region ?_
                      refine G.moveI rfl trivial rfl rfl rfl ?_
                      refine G.add rfl trivial rfl rfl rfl rfl (by omega) ?_
                      refine G.assignI rfl trivial rfl rfl rfl ?_
                      refine G.nil ?_
                      exact ⟨35 - (kk + 1), by omega, kk + 1, by omega, rfl, (by show Value.int .i64 _ = _; congr 1; omega), (by show Value.int .i64 ((countU (pg 1) (kk - 1) : Nat) : Int) = Value.int .i64 ((countU (pg 1) (kk + 1 - 1) : Nat) : Int); rw [hcs]; rfl), rfl, rfl, rfl, rfl, rfl, rfl, rfl, rfl, rfl⟩
                  · intro hg190
                    refine G.skip rfl rfl rfl rfl rfl rfl ?_
                    refine G.skip rfl rfl rfl rfl rfl rfl ?_
                    first | refine G.pickT rfl trivial rfl rfl rfl rfl ?_ | refine G.pickF rfl trivial rfl rfl rfl rfl ?_
                    refine G.moveB rfl trivial rfl rfl rfl ?_
                    refine G.skip rfl rfl rfl rfl rfl rfl ?_
                    refine G.skip rfl rfl rfl rfl rfl rfl ?_
                    refine G.skip rfl rfl rfl rfl rfl rfl ?_
                    first | refine G.pickT rfl trivial rfl rfl rfl rfl ?_ | refine G.pickF rfl trivial rfl rfl rfl rfl ?_
                    refine G.assignB rfl trivial rfl rfl rfl ?_
                    refine G.nil ?_
                    refine C.seq ?_
                    refine C.region ?_
                    refine G.moveP rfl trivial rfl rfl rfl ?_
                    refine G.makeInterface rfl trivial rfl rfl Try.underlying29 rfl ?_
                    refine G.moveI rfl trivial rfl rfl rfl ?_
                    refine G.call E15 rfl rfl trivial rfl rfl (used_spec W0 _ _ _ _ hA.us.len (aread_sheet W0 [_] [] bs pg sg hsg) ((kk : Int) - 1)) rfl ?_
                    rintro e L2 ⟨rfl, rfl⟩
                    have hhas := has_out (pg 1) (k := (kk : Int) - 1) (by omega)
                    rw [hhas] at hcs ⊢
                    refine G.moveU rfl trivial rfl rfl rfl ?_
                    refine G.extractL rfl trivial rfl rfl rfl rfl ?_
                    refine G.extractL rfl trivial rfl rfl rfl rfl ?_
                    refine G.assignB rfl trivial rfl rfl rfl ?_
                    refine G.assignI rfl trivial rfl rfl rfl ?_
                    refine G.nil ?_
                    refine C.seq ?_
                    refine C.seq ?_
                    refine C.region ?_
                    refine G.moveB rfl trivial rfl rfl rfl ?_
                    refine G.moveB rfl trivial rfl rfl rfl ?_
                    refine G.boolNe rfl trivial rfl rfl Try.underlying4 rfl rfl ?_
                    refine G.fix (d := 208) (v := .bool false) (rfl) ?_
                    refine G.moveB rfl trivial rfl rfl rfl ?_
                    refine G.moveI rfl ⟨_, rfl, rfl, rfl⟩ rfl rfl rfl ?_
                    refine G.bin rfl ⟨_, rfl, rfl, rfl⟩ rfl rfl rfl rfl rfl ?_
                    refine G.no (t := 211) rfl (by simp) ?_
                    first | refine G.pickT rfl trivial rfl rfl rfl rfl ?_ | refine G.pickF rfl trivial rfl rfl rfl rfl ?_
                    refine G.nil ?_
                    refine C.condF rfl ?_
                    refine C.skip ?_
                    refine C.seq ?_
                    refine C.region ?_
                    refine G.moveB rfl trivial rfl rfl rfl ?_
                    refine G.nil ?_
                    refine C.condF rfl ?_
                    refine C.skip ?_
                    refine C.region ?_
                    refine G.moveI rfl trivial rfl rfl rfl ?_
                    refine G.add rfl trivial rfl rfl rfl rfl (by omega) ?_
                    refine G.assignI rfl trivial rfl rfl rfl ?_
                    refine G.nil ?_
                    exact ⟨35 - (kk + 1), by omega, kk + 1, by omega, rfl, (by show Value.int .i64 _ = _; congr 1; omega), (by show Value.int .i64 ((countU (pg 1) (kk - 1) : Nat) : Int) = Value.int .i64 ((countU (pg 1) (kk + 1 - 1) : Nat) : Int); rw [hcs]; rfl), rfl, rfl, rfl, rfl, rfl, rfl, rfl, rfl, rfl⟩
                · intro hc14
                  obtain rfl : kk = 35 := by omega
                  refine C.exit ?_
                  refine C.seq ?_
                  refine C.region ?_
                  refine G.moveP rfl trivial rfl rfl rfl ?_
                  refine G.makeInterface rfl trivial rfl rfl Try.underlying29 rfl ?_
                  refine G.call E16 rfl rfl trivial rfl rfl (count_spec W0 _ _ _ _ hA.us.len (aread_sheet W0 [_] [] bs pg sg hsg)) rfl ?_
                  rintro e L2 ⟨rfl, rfl⟩
                  rw [← countU_end]
                  refine G.moveU rfl trivial rfl rfl rfl ?_
                  refine G.extractL rfl trivial rfl rfl rfl rfl ?_
                  refine G.extractL rfl trivial rfl rfl rfl rfl ?_
                  refine G.assignI rfl trivial rfl rfl rfl ?_
                  refine G.assignI rfl trivial rfl rfl rfl ?_
                  refine G.nil ?_
                  refine C.seq ?_
                  refine C.region ?_
                  refine G.moveP rfl trivial rfl rfl rfl ?_
                  refine G.makeInterface rfl trivial rfl rfl Try.underlying29 rfl ?_
                  refine G.call E17 rfl rfl trivial rfl rfl (root_spec W0 _ _ _ _ hA.us.len (aread_sheet W0 [_] [] bs pg sg hsg)) rfl ?_
                  rintro e L2 ⟨rfl, rfl⟩
                  rw [hA.us.root, if_pos hA.root]
                  refine G.moveU rfl trivial rfl rfl rfl ?_
                  refine G.extractL rfl trivial rfl rfl rfl rfl ?_
                  refine G.extractL rfl trivial rfl rfl rfl rfl ?_
                  refine G.assignI rfl trivial rfl rfl rfl ?_
                  refine G.assignI rfl trivial rfl rfl rfl ?_
                  refine G.nil ?_
                  refine C.seq ?_
                  refine C.region ?_
                  refine G.moveI rfl trivial rfl rfl rfl ?_
                  refine G.moveI rfl trivial rfl rfl rfl ?_
                  refine G.bin rfl trivial rfl rfl rfl rfl rfl ?_
                  refine G.no (t := 230) rfl (by simp) ?_
                  refine G.moveB rfl trivial rfl rfl rfl ?_
                  refine G.moveI rfl ⟨_, rfl, rfl, rfl⟩ rfl rfl rfl ?_
                  refine G.bin rfl ⟨_, rfl, rfl, rfl⟩ rfl rfl rfl rfl rfl ?_
                  refine G.no (t := 233) rfl (by simp) ?_
                  first | refine G.pickT rfl trivial rfl rfl rfl rfl ?_ | refine G.pickF rfl trivial rfl rfl rfl rfl ?_
                  refine G.moveB rfl trivial rfl rfl rfl ?_
                  refine G.moveI rfl ⟨_, rfl, rfl, rfl⟩ rfl rfl rfl ?_
                  refine G.moveI rfl ⟨_, rfl, rfl, rfl⟩ rfl rfl rfl ?_
                  refine G.bin rfl ⟨_, rfl, rfl, rfl⟩ rfl rfl rfl rfl rfl ?_
                  refine G.no (t := 238) rfl (by simp) ?_
                  first | refine G.pickT rfl trivial rfl rfl rfl rfl ?_ | refine G.pickF rfl trivial rfl rfl rfl rfl ?_
                  refine G.moveB rfl trivial rfl rfl rfl ?_
                  refine G.moveI rfl ⟨_, rfl, rfl, rfl⟩ rfl rfl rfl ?_
                  refine G.bin rfl ⟨_, rfl, rfl, rfl⟩ rfl rfl rfl rfl rfl ?_
                  refine G.no (t := 242) rfl (by simp) ?_
                  first | refine G.pickT rfl trivial rfl rfl rfl rfl ?_ | refine G.pickF rfl trivial rfl rfl rfl rfl ?_
                  refine G.nil ?_
                  refine C.condF rfl ?_
                  refine C.skip ?_
                  refine C.region ?_
                  refine G.moveI rfl trivial rfl rfl rfl ?_
                  refine G.add rfl trivial rfl rfl rfl rfl (by omega) ?_
                  refine G.assignI rfl trivial rfl rfl rfl ?_
                  refine G.nil ?_
                  exact ⟨ls.length - (i + 1), by omega, i + 1, pg, sg, u, rr, U, by omega, hsg, hA, rfl, rfl, rfl, rfl, rfl, rfl, rfl, rfl, rfl, rfl⟩
            · intro hg163
              refine G.skip rfl rfl rfl rfl rfl rfl ?_
              refine G.skip rfl rfl rfl rfl rfl rfl ?_
              refine G.skip rfl rfl rfl rfl rfl rfl ?_
              first | refine G.pickT rfl trivial rfl rfl rfl rfl ?_ | refine G.pickF rfl trivial rfl rfl rfl rfl ?_
              refine G.moveB rfl trivial rfl rfl rfl ?_
              refine G.skip rfl rfl rfl rfl rfl rfl ?_
              refine G.skip rfl rfl rfl rfl rfl rfl ?_
              refine G.skip rfl rfl rfl rfl rfl rfl ?_
              refine G.skip rfl rfl rfl rfl rfl rfl ?_
              first | refine G.pickT rfl trivial rfl rfl rfl rfl ?_ | refine G.pickF rfl trivial rfl rfl rfl rfl ?_
              refine G.assignB rfl trivial rfl rfl rfl ?_
              refine G.nil ?_
              refine C.seq ?_
              refine C.region ?_
              refine G.assignI rfl trivial rfl rfl rfl ?_
              refine G.nil ?_
              refine C.seq ?_
              refine C.seq ?_
              refine C.region ?_
              refine G.moveB rfl trivial rfl rfl rfl ?_
              refine G.nil ?_
              refine C.condF rfl ?_
              refine C.skip ?_
              refine C.seq ?_
              refine C.region ?_
              refine G.moveP rfl trivial rfl rfl rfl ?_
              refine G.fieldAddr rfl trivial rfl rfl Try.underlying33 rfl I3 rfl rfl ?_
              refine G.loadAt (by first | exact .here | exact .next .here | exact .next (.next .here) | exact .next (.next (.next .here)) | exact .next (.next (.next (.next .here))) | exact .next (.next (.next (.next (.next .here)))) | exact .next (.next (.next (.next (.next (.next .here))))) | exact .next (.next (.next (.next (.next (.next (.next .here)))))) | exact .in1 | exact .next .in1 | exact .next (.next .in1) | exact .next (.next (.next .in1)) | exact .next (.next (.next (.next .in1))) | exact .in2 | exact .next .in2 | exact .next (.next .in2) | exact .next (.next (.next .in2)) | exact .next (.next (.next (.next .in2))) | exact .app .here | exact .app (.next .here) | exact .app (.next (.next .here)) | exact .app (.next (.next (.next .here))) | exact .app (.next (.next (.next (.next .here)))) | exact .app (.next (.next (.next (.next (.next .here))))) | exact .app (.next (.next (.next (.next (.next (.next .here)))))) | exact .app (.next (.next (.next (.next (.next (.next (.next .here))))))) | exact .app .in1 | exact .app .in2 | exact .app (.next .in1) | exact .next (.app .in1) | exact .next (.next (.app .in1)) | exact .next (.app .here) | exact .next (.next (.app .here)) | exact .next (.next (.next (.app .here))) | exact .next (.next (.next (.next (.app .here))))) rfl trivial rfl rfl Try.underlying3 rfl rfl (by rfl) ?_
              refine G.call E13 rfl rfl trivial rfl rfl (free_none W0 [_, _] [] bs pg sg hsg hA.us.len no (has_out _ (by omega))) rfl ?_
              rintro e L2 ⟨rfl, rfl⟩
              refine G.moveI rfl trivial rfl rfl rfl ?_
              refine G.bin rfl trivial rfl rfl rfl rfl rfl ?_
              refine G.no (t := 183) rfl (by simp) ?_
              refine G.nil ?_
              refine C.condF rfl ?_
              refine C.skip ?_
              refine C.seq ?_
              refine C.region ?_
              obtain ⟨rr, hrr⟩ : ∃ rr : Nat, rr = r := ⟨_, rfl⟩
              rw [← hrr] at hA
              refine G.fix (d := 11) (v := .int .i64 (rr : Int)) (by show Value.int .i64 (r : Int) = _; rw [hrr]) ?_
              refine G.assignI rfl trivial rfl rfl rfl ?_
              refine G.less (fun _ h => h.tail) ?_
              refine G.nil ?_
              refine C.seq ?_
              refine C.seq ?_
              refine C.region ?_
              refine G.assignI rfl trivial rfl rfl rfl ?_
              refine G.nil ?_
              refine C.block ?_
              refine C.loop (fun m F D' L' => ∃ kk : Nat, kk ≤ 35 ∧ m = 35 - kk ∧ F 24 = .int .i64 ((kk : Int) - 1) ∧ F 23 = .int .i64 (countU (pg 1) (kk - 1) : Nat) ∧ F 12 = .int .i64 i ∧ F 11 = .int .i64 (rr : Int) ∧ F 10 = ptr b10 ∧ F 9 = ptr bs ∧ F 7 = .slice (some ⟨b39, 0, none⟩) 256 256 ∧ F 0 = .int .u8 (b.toNat : Int) ∧ F 1 = .slice (some ⟨p1, o1, none⟩) ls.length c1 ∧ D' = [] ∧ [(b10, .row (U.map Value.bool) 31 32)] :: sg :: [] = L') ⟨_, ⟨0, by omega, rfl, rfl, rfl, rfl, rfl, rfl, rfl, rfl, rfl, rfl, rfl, rfl⟩⟩ ?_
              rintro m F D' L' ⟨kk, hkk, rfl, h24, h23, h12, h11, h10, h9, h7, h0', h1', rfl, rfl⟩
              refine C.fix (d := 24) h24 ?_
              refine C.fix (d := 23) h23 ?_
              refine C.fix (d := 12) h12 ?_
              refine C.fix (d := 11) h11 ?_
              refine C.fix (d := 10) h10 ?_
              refine C.fix (d := 9) h9 ?_
              refine C.fix (d := 7) h7 ?_
              refine C.fix (d := 0) h0' ?_
              refine C.fix (d := 1) h1' ?_
              refine C.seq ?_
              refine C.seq ?_
              refine C.region ?_
              refine G.moveI rfl trivial rfl rfl rfl ?_
              refine G.bin rfl trivial rfl rfl rfl rfl rfl ?_
              refine G.nil ?_
              refine C.cond _ rfl ?_ ?_
              · intro hc14
                have hcs := cnt_step (pg 1) kk
                have hcl := countU_le (pg 1) (kk - 1)
                refine C.skip ?_
                refine C.seq ?_
                refine C.block ?_
                refine C.seq ?_
                refine C.region ?_
                refine G.moveI rfl trivial rfl rfl rfl ?_
                refine G.bin rfl trivial rfl rfl rfl rfl rfl ?_
                refine G.moveB rfl trivial rfl rfl rfl ?_
                refine G.fork (t := 190) _ rfl ?_ ?_
                · intro hg190
                  refine G.moveI rfl ⟨_, rfl, rfl, rfl⟩ rfl rfl rfl ?_
                  refine G.bin rfl ⟨_, rfl, rfl, rfl⟩ rfl rfl rfl rfl rfl ?_
                  first | refine G.pickT rfl trivial rfl rfl rfl rfl ?_ | refine G.pickF rfl trivial rfl rfl rfl rfl ?_
                  refine G.moveB rfl trivial rfl rfl rfl ?_
                  refine G.fork (t := 194) _ rfl ?_ ?_
                  · intro hg194
                    refine G.moveI rfl ⟨_, rfl, rfl, rfl⟩ rfl rfl rfl ?_
                    obtain ⟨ux, hux, hhas⟩ := hA.has (k := (kk : Int) - 1) (by omega)
                    refine G.indexAddrArr rfl ⟨_, rfl, rfl, rfl⟩ rfl rfl Try.underlying31 I4 rfl rfl (by omega) ?_
                    refine G.loadAt (v := .bool ux) .here rfl ⟨_, rfl, rfl, rfl⟩ rfl rfl Try.underlying4 rfl rfl (by rw [show 0 + ((kk : Int) - 1).toNat * 1 = ((kk : Int) - 1).toNat by omega]; exact boolsV_at hux) ?_
                    first | refine G.pickT rfl trivial rfl rfl rfl rfl ?_ | refine G.pickF rfl trivial rfl rfl rfl rfl ?_
                    refine G.assignB rfl trivial rfl rfl rfl ?_
                    refine G.nil ?_
                    refine C.seq ?_
                    refine C.region ?_
                    refine G.moveP rfl trivial rfl rfl rfl ?_
                    refine G.makeInterface rfl trivial rfl rfl Try.underlying29 rfl ?_
                    refine G.moveI rfl trivial rfl rfl rfl ?_
                    refine G.call E15 rfl rfl trivial rfl rfl (used_spec W0 _ _ _ _ hA.us.len (aread_sheet W0 [_] [] bs pg sg hsg) ((kk : Int) - 1)) rfl ?_
                    rintro e L2 ⟨rfl, rfl⟩
                    rw [hhas] at hcs ⊢
                    refine G.moveU rfl trivial rfl rfl rfl ?_
                    refine G.extractL rfl trivial rfl rfl rfl rfl ?_
                    refine G.extractL rfl trivial rfl rfl rfl rfl ?_
                    refine G.assignB rfl trivial rfl rfl rfl ?_
                    refine G.assignI rfl trivial rfl rfl rfl ?_
                    refine G.nil ?_
                    refine C.seq ?_
                    refine C.seq ?_
                    refine C.region ?_
                    refine G.moveB rfl trivial rfl rfl rfl ?_
                    refine G.moveB rfl trivial rfl rfl rfl ?_
                    refine G.boolNe rfl trivial rfl rfl Try.underlying4 rfl rfl ?_
                    refine G.fix (d := 208) (v := .bool false) (by show Value.bool (ux != ux) = _; cases ux <;> rfl) ?_
                    refine G.moveB rfl trivial rfl rfl rfl ?_
                    refine G.moveI rfl ⟨_, rfl, rfl, rfl⟩ rfl rfl rfl ?_
                    refine G.bin rfl ⟨_, rfl, rfl, rfl⟩ rfl rfl rfl rfl rfl ?_
                    refine G.no (t := 211) rfl (by simp) ?_
                    first | refine G.pickT rfl trivial rfl rfl rfl rfl ?_ | refine G.pickF rfl trivial rfl rfl rfl rfl ?_
                    refine G.nil ?_
                    refine C.condF rfl ?_
                    refine C.skip ?_
                    refine C.seq ?_
                    refine C.region ?_
                    refine G.moveB rfl trivial rfl rfl rfl ?_
                    refine G.nil ?_
                    refine C.condB _ rfl ?_ ?_
                    · intro hc16
                      refine C.region ?_
                      refine G.moveI rfl trivial rfl rfl rfl ?_
                      refine G.add rfl trivial rfl rfl rfl rfl (by omega) ?_
                      refine G.assignI rfl trivial rfl rfl rfl ?_
                      refine G.nil ?_
                      refine C.region ?_
                      refine G.moveI rfl trivial rfl rfl rfl ?_
                      refine G.add rfl trivial rfl rfl rfl rfl (by omega) ?_
                      refine G.assignI rfl trivial rfl rfl rfl ?_
                      refine G.nil ?_
                      exact ⟨35 - (kk + 1), by omega, kk + 1, by omega, rfl, (by show Value.int .i64 _ = _; congr 1; omega), (by show Value.int .i64 (((countU (pg 1) (kk - 1) : Nat) : Int) + 1) = Value.int .i64 ((countU (pg 1) (kk + 1 - 1) : Nat) : Int); rw [hcs, hc16]; rfl), rfl, rfl, rfl, rfl, rfl, rfl, rfl, rfl, rfl⟩
                    · intro hc16
                      refine C.skip ?_
                      refine C.region ?_
                      refine G.moveI rfl trivial rfl rfl rfl ?_
                      refine G.add rfl trivial rfl rfl rfl rfl (by omega) ?_
                      refine G.assignI rfl trivial rfl rfl rfl ?_
                      refine G.nil ?_
                      exact ⟨35 - (kk + 1), by omega, kk + 1, by omega, rfl, (by show Value.int .i64 _ = _; congr 1; omega), (by show Value.int .i64 ((countU (pg 1) (kk - 1) : Nat) : Int) = Value.int .i64 ((countU (pg 1) (kk + 1 - 1) : Nat) : Int); rw [hcs, hc16]; rfl), rfl, rfl, rfl, rfl, rfl, rfl, rfl, rfl, rfl⟩
                  · intro hg194
                    refine G.skip rfl rfl rfl rfl rfl rfl ?_
                    refine G.skip rfl rfl rfl rfl rfl rfl ?_
                    refine G.skip rfl rfl rfl rfl rfl rfl ?_
                    first | refine G.pickT rfl trivial rfl rfl rfl rfl ?_ | refine G.pickF rfl trivial rfl rfl rfl rfl ?_
                    refine G.assignB rfl trivial rfl rfl rfl ?_
                    refine G.nil ?_
                    refine C.seq ?_
                    refine C.region ?_
                    refine G.moveP rfl trivial rfl rfl rfl ?_
                    refine G.makeInterface rfl trivial rfl rfl Try.underlying29 rfl ?_
                    refine G.moveI rfl trivial rfl rfl rfl ?_
                    refine G.call E15 rfl rfl trivial rfl rfl (used_spec W0 _ _ _ _ hA.us.len (aread_sheet W0 [_] [] bs pg sg hsg) ((kk : Int) - 1)) rfl ?_
                    rintro e L2 ⟨rfl, rfl⟩
                    have hhas := has_out (pg 1) (k := (kk : Int) - 1) (by omega)
                    rw [hhas] at hcs ⊢
                    refine G.moveU rfl trivial rfl rfl rfl ?_
                    refine G.extractL rfl trivial rfl rfl rfl rfl ?_
                    refine G.extractL rfl trivial rfl rfl rfl rfl ?_
                    refine G.assignB rfl trivial rfl rfl rfl ?_
                    refine G.assignI rfl trivial rfl rfl rfl ?_
                    refine G.nil ?_
                    refine C.seq ?_
                    refine C.seq ?_
                    refine C.region ?_
                    refine G.moveB rfl trivial rfl rfl rfl ?_
                    refine G.moveB rfl trivial rfl rfl rfl ?_
                    refine G.boolNe rfl trivial rfl rfl Try.underlying4 rfl rfl ?_
                    refine G.fix (d := 208) (v := .bool false) (rfl) ?_
                    refine G.moveB rfl trivial rfl rfl rfl ?_
                    refine G.moveI rfl ⟨_, rfl, rfl, rfl⟩ rfl rfl rfl ?_
                    refine G.bin rfl ⟨_, rfl, rfl, rfl⟩ rfl rfl rfl rfl rfl ?_
                    refine G.no (t := 211) rfl (by simp) ?_
                    first | refine G.pickT rfl trivial rfl rfl rfl rfl ?_ | refine G.pickF rfl trivial rfl rfl rfl rfl ?_
                    refine G.nil ?_
                    refine C.condF rfl ?_
                    refine C.skip ?_
                    refine C.seq ?_
                    refine C.region ?_
                    refine G.moveB rfl trivial rfl rfl rfl ?_
                    refine G.nil ?_
                    refine C.condF rfl ?_
                    refine C.skip ?_
                    refine C.region ?_
                    refine G.moveI rfl trivial rfl rfl rfl ?_
                    refine G.add rfl trivial rfl rfl rfl rfl (by omega) ?_
                    refine G.assignI rfl trivial rfl rfl rfl ?_
                    refine G.nil ?_
                    exact ⟨35 - (kk + 1), by omega, kk + 1, by omega, rfl, (by show Value.int .i64 _ = _; congr 1; omega), (by show Value.int .i64 ((countU (pg 1) (kk - 1) : Nat) : Int) = Value.int .i64 ((countU (pg 1) (kk + 1 - 1) : Nat) : Int); rw [hcs]; rfl), rfl, rfl, rfl, rfl, rfl, rfl, rfl, rfl, rfl⟩
                · intro hg190
                  refine G.skip rfl rfl rfl rfl rfl rfl ?_
                  refine G.skip rfl rfl rfl rfl rfl rfl ?_
                  first | refine G.pickT rfl trivial rfl rfl rfl rfl ?_ | refine G.pickF rfl trivial rfl rfl rfl rfl ?_
                  refine G.moveB rfl trivial rfl rfl rfl ?_
                  refine G.skip rfl rfl rfl rfl rfl rfl ?_
                  refine G.skip rfl rfl rfl rfl rfl rfl ?_
                  refine G.skip rfl rfl rfl rfl rfl rfl ?_
                  first | refine G.pickT rfl trivial rfl rfl rfl rfl ?_ | refine G.pickF rfl trivial rfl rfl rfl rfl ?_
                  refine G.assignB rfl trivial rfl rfl rfl ?_
                  refine G.nil ?_
                  refine C.seq ?_
                  refine C.region ?_
                  refine G.moveP rfl trivial rfl rfl rfl ?_
                  refine G.makeInterface rfl trivial rfl rfl Try.underlying29 rfl ?_
                  refine G.moveI rfl trivial rfl rfl rfl ?_
                  refine G.call E15 rfl rfl trivial rfl rfl (used_spec W0 _ _ _ _ hA.us.len (aread_sheet W0 [_] [] bs pg sg hsg) ((kk : Int) - 1)) rfl ?_
                  rintro e L2 ⟨rfl, rfl⟩
                  have hhas := has_out (pg 1) (k := (kk : Int) - 1) (by omega)
                  rw [hhas] at hcs ⊢
                  refine G.moveU rfl trivial rfl rfl rfl ?_
                  refine G.extractL rfl trivial rfl rfl rfl rfl ?_
                  refine G.extractL rfl trivial rfl rfl rfl rfl ?_
                  refine G.assignB rfl trivial rfl rfl rfl ?_
                  refine G.assignI rfl trivial rfl rfl rfl ?_
                  refine G.nil ?_
                  refine C.seq ?_
                  refine C.seq ?_
                  refine C.region ?_
                  refine G.moveB rfl trivial rfl rfl rfl ?_
                  refine G.moveB rfl trivial rfl rfl rfl ?_
                  refine G.boolNe rfl trivial rfl rfl Try.underlying4 rfl rfl ?_
                  refine G.fix (d := 208) (v := .bool false) (rfl) ?_
                  refine G.moveB rfl trivial rfl rfl rfl ?_
                  refine G.moveI rfl ⟨_, rfl, rfl, rfl⟩ rfl rfl rfl ?_
                  refine G.bin rfl ⟨_, rfl, rfl, rfl⟩ rfl rfl rfl rfl rfl ?_
                  refine G.no (t := 211) rfl (by simp) ?_
                  first | refine G.pickT rfl trivial rfl rfl rfl rfl ?_ | refine G.pickF rfl trivial rfl rfl rfl rfl ?_
                  refine G.nil ?_
                  refine C.condF rfl ?_
                  refine C.skip ?_
                  refine C.seq ?_
                  refine C.region ?_
                  refine G.moveB rfl trivial rfl rfl rfl ?_
                  refine G.nil ?_
                  refine C.condF rfl ?_
                  refine C.skip ?_
                  refine C.region ?_
                  refine G.moveI rfl trivial rfl rfl rfl ?_
                  refine G.add rfl trivial rfl rfl rfl rfl (by omega) ?_
                  refine G.assignI rfl trivial rfl rfl rfl ?_
                  refine G.nil ?_
                  exact ⟨35 - (kk + 1), by omega, kk + 1, by omega, rfl, (by show Value.int .i64 _ = _; congr 1; omega), (by show Value.int .i64 ((countU (pg 1) (kk - 1) : Nat) : Int) = Value.int .i64 ((countU (pg 1) (kk + 1 - 1) : Nat) : Int); rw [hcs]; rfl), rfl, rfl, rfl, rfl, rfl, rfl, rfl, rfl, rfl⟩
              · intro hc14
                obtain rfl : kk = 35 := by omega
                refine C.exit ?_
                refine C.seq ?_
                refine C.region ?_
                refine G.moveP rfl trivial rfl rfl rfl ?_
                refine G.makeInterface rfl trivial rfl rfl Try.underlying29 rfl ?_
                refine G.call E16 rfl rfl trivial rfl rfl (count_spec W0 _ _ _ _ hA.us.len (aread_sheet W0 [_] [] bs pg sg hsg)) rfl ?_
                rintro e L2 ⟨rfl, rfl⟩
                rw [← countU_end]
                refine G.moveU rfl trivial rfl rfl rfl ?_
                refine G.extractL rfl trivial rfl rfl rfl rfl ?_
                refine G.extractL rfl trivial rfl rfl rfl rfl ?_
                refine G.assignI rfl trivial rfl rfl rfl ?_
                refine G.assignI rfl trivial rfl rfl rfl ?_
                refine G.nil ?_
                refine C.seq ?_
                refine C.region ?_
                refine G.moveP rfl trivial rfl rfl rfl ?_
                refine G.makeInterface rfl trivial rfl rfl Try.underlying29 rfl ?_
                refine G.call E17 rfl rfl trivial rfl rfl (root_spec W0 _ _ _ _ hA.us.len (aread_sheet W0 [_] [] bs pg sg hsg)) rfl ?_
                rintro e L2 ⟨rfl, rfl⟩
                rw [hA.us.root, if_pos hA.root]
                refine G.moveU rfl trivial rfl rfl rfl ?_
                refine G.extractL rfl trivial rfl rfl rfl rfl ?_
                refine G.extractL rfl trivial rfl rfl rfl rfl ?_
                refine G.assignI rfl trivial rfl rfl rfl ?_
                refine G.assignI rfl trivial rfl rfl rfl ?_
                refine G.nil ?_
                refine C.seq ?_
                refine C.region ?_
                refine G.moveI rfl trivial rfl rfl rfl ?_
                refine G.moveI rfl trivial rfl rfl rfl ?_
                refine G.bin rfl trivial rfl rfl rfl rfl rfl ?_
                refine G.no (t := 230) rfl (by simp) ?_
                refine G.moveB rfl trivial rfl rfl rfl ?_
                refine G.moveI rfl ⟨_, rfl, rfl, rfl⟩ rfl rfl rfl ?_
                refine G.bin rfl ⟨_, rfl, rfl, rfl⟩ rfl rfl rfl rfl rfl ?_
                refine G.no (t := 233) rfl (by simp) ?_
                first | refine G.pickT rfl trivial rfl rfl rfl rfl ?_ | refine G.pickF rfl trivial rfl rfl rfl rfl ?_
                refine G.moveB rfl trivial rfl rfl rfl ?_
                refine G.moveI rfl ⟨_, rfl, rfl, rfl⟩ rfl rfl rfl ?_
                refine G.moveI rfl ⟨_, rfl, rfl, rfl⟩ rfl rfl rfl ?_
                refine G.bin rfl ⟨_, rfl, rfl, rfl⟩ rfl rfl rfl rfl rfl ?_
                refine G.no (t := 238) rfl (by simp) ?_
                first | refine G.pickT rfl trivial rfl rfl rfl rfl ?_ | refine G.pickF rfl trivial rfl rfl rfl rfl ?_
                refine G.moveB rfl trivial rfl rfl rfl ?_
                refine G.moveI rfl ⟨_, rfl, rfl, rfl⟩ rfl rfl rfl ?_
                refine G.bin rfl ⟨_, rfl, rfl, rfl⟩ rfl rfl rfl rfl rfl ?_
                refine G.no (t := 242) rfl (by simp) ?_
                first | refine G.pickT rfl trivial rfl rfl rfl rfl ?_ | refine G.pickF rfl trivial rfl rfl rfl rfl ?_
                refine G.nil ?_
                refine C.condF rfl ?_
                refine C.skip ?_
                refine C.region ?_
                refine G.moveI rfl trivial rfl rfl rfl ?_
                refine G.add rfl trivial rfl rfl rfl rfl (by omega) ?_
                refine G.assignI rfl trivial rfl rfl rfl ?_
                refine G.nil ?_
                exact ⟨ls.length - (i + 1), by omega, i + 1, pg, sg, u, rr, U, by omega, hsg, hA, rfl, rfl, rfl, rfl, rfl, rfl, rfl, rfl, rfl, rfl⟩
          · intro hc9
            refine C.seq ?_
            refine C.region ?_
            by_cases hgood : no = 0 ∨ (2 ≤ no ∧ no < 32)
            ·
              obtain ⟨j, rfl⟩ : ∃ j : Nat, no = j := ⟨no.toNat, by omega⟩
              refine G.fieldAddr rfl trivial rfl rfl Try.underlying33 rfl I3 rfl rfl ?_
              refine G.loadAt (by first | exact .here | exact .next .here | exact .next (.next .here) | exact .next (.next (.next .here)) | exact .next (.next (.next (.next .here))) | exact .next (.next (.next (.next (.next .here)))) | exact .next (.next (.next (.next (.next (.next .here))))) | exact .next (.next (.next (.next (.next (.next (.next .here)))))) | exact .in1 | exact .next .in1 | exact .next (.next .in1) | exact .next (.next (.next .in1)) | exact .next (.next (.next (.next .in1))) | exact .in2 | exact .next .in2 | exact .next (.next .in2) | exact .next (.next (.next .in2)) | exact .next (.next (.next (.next .in2))) | exact .app .here | exact .app (.next .here) | exact .app (.next (.next .here)) | exact .app (.next (.next (.next .here))) | exact .app (.next (.next (.next (.next .here)))) | exact .app (.next (.next (.next (.next (.next .here))))) | exact .app (.next (.next (.next (.next (.next (.next .here)))))) | exact .app (.next (.next (.next (.next (.next (.next (.next .here))))))) | exact .app .in1 | exact .app .in2 | exact .app (.next .in1) | exact .next (.app .in1) | exact .next (.next (.app .in1)) | exact .next (.app .here) | exact .next (.next (.app .here)) | exact .next (.next (.next (.app .here))) | exact .next (.next (.next (.next (.app .here))))) rfl trivial rfl rfl Try.underlying3 rfl rfl (by rfl) ?_
              refine G.bin rfl trivial rfl rfl rfl rfl rfl ?_
              refine G.moveB rfl trivial rfl rfl rfl ?_
              refine G.fork (t := 79) _ rfl ?_ ?_
              · intro hg79
                refine G.skip rfl rfl rfl rfl rfl rfl ?_
                refine G.skip rfl rfl rfl rfl rfl rfl ?_
                refine G.skip rfl rfl rfl rfl rfl rfl ?_
                refine G.skip rfl rfl rfl rfl rfl rfl ?_
                refine G.skipU rfl rfl rfl rfl rfl rfl ?_
                refine G.skipU rfl rfl rfl rfl rfl rfl ?_
                refine G.skipU rfl rfl rfl rfl rfl rfl ?_
                refine G.skip rfl rfl rfl rfl rfl rfl ?_
                first | refine G.pickT rfl trivial rfl rfl rfl rfl ?_ | refine G.pickF rfl trivial rfl rfl rfl rfl ?_
                refine G.assignB rfl trivial rfl rfl rfl ?_
                refine G.nil ?_
                refine C.seq ?_
                refine C.seq ?_
                refine C.region ?_
                refine G.moveP rfl trivial rfl rfl rfl ?_
                refine G.fieldAddr rfl trivial rfl rfl Try.underlying33 rfl I3 rfl rfl ?_
                refine G.loadAt (by first | exact .here | exact .next .here | exact .next (.next .here) | exact .next (.next (.next .here)) | exact .next (.next (.next (.next .here))) | exact .next (.next (.next (.next (.next .here)))) | exact .next (.next (.next (.next (.next (.next .here))))) | exact .next (.next (.next (.next (.next (.next (.next .here)))))) | exact .in1 | exact .next .in1 | exact .next (.next .in1) | exact .next (.next (.next .in1)) | exact .next (.next (.next (.next .in1))) | exact .in2 | exact .next .in2 | exact .next (.next .in2) | exact .next (.next (.next .in2)) | exact .next (.next (.next (.next .in2))) | exact .app .here | exact .app (.next .here) | exact .app (.next (.next .here)) | exact .app (.next (.next (.next .here))) | exact .app (.next (.next (.next (.next .here)))) | exact .app (.next (.next (.next (.next (.next .here))))) | exact .app (.next (.next (.next (.next (.next (.next .here)))))) | exact .app (.next (.next (.next (.next (.next (.next (.next .here))))))) | exact .app .in1 | exact .app .in2 | exact .app (.next .in1) | exact .next (.app .in1) | exact .next (.next (.app .in1)) | exact .next (.app .here) | exact .next (.next (.app .here)) | exact .next (.next (.next (.app .here))) | exact .next (.next (.next (.next (.app .here))))) rfl trivial rfl rfl Try.underlying3 rfl rfl (by rfl) ?_
                refine G.call E14 rfl rfl trivial rfl rfl (setroot_ok W0 [_, _] [] bs pg sg hsg hA.us.len j (by omega)) rfl ?_
                rintro e L2 ⟨sg, hsg, rfl, rfl⟩
                have hA := hA.rooted (i := j) (by omega)
                generalize updP pg 1 ((pg 1).set 4 (UInt8.ofNat j)) = pg at *
                refine G.bin rfl trivial rfl rfl rfl rfl rfl ?_
                refine G.yes (t := 93) rfl rfl ?_
                refine G.moveB rfl trivial rfl rfl rfl ?_
                refine G.boolNe rfl trivial rfl rfl Try.underlying4 rfl rfl ?_
                refine G.nil ?_
                refine C.condF rfl ?_
                refine C.skip ?_
                refine C.seq ?_
                refine C.region ?_
                refine G.moveB rfl trivial rfl rfl rfl ?_
                refine G.nil ?_
                refine C.condT rfl ?_
                refine C.region ?_
                refine G.fieldAddr rfl trivial rfl rfl Try.underlying33 rfl I3 rfl rfl ?_
                refine G.loadAt (by first | exact .here | exact .next .here | exact .next (.next .here) | exact .next (.next (.next .here)) | exact .next (.next (.next (.next .here))) | exact .next (.next (.next (.next (.next .here)))) | exact .next (.next (.next (.next (.next (.next .here))))) | exact .next (.next (.next (.next (.next (.next (.next .here)))))) | exact .in1 | exact .next .in1 | exact .next (.next .in1) | exact .next (.next (.next .in1)) | exact .next (.next (.next (.next .in1))) | exact .in2 | exact .next .in2 | exact .next (.next .in2) | exact .next (.next (.next .in2)) | exact .next (.next (.next (.next .in2))) | exact .app .here | exact .app (.next .here) | exact .app (.next (.next .here)) | exact .app (.next (.next (.next .here))) | exact .app (.next (.next (.next (.next .here)))) | exact .app (.next (.next (.next (.next (.next .here))))) | exact .app (.next (.next (.next (.next (.next (.next .here)))))) | exact .app (.next (.next (.next (.next (.next (.next (.next .here))))))) | exact .app .in1 | exact .app .in2 | exact .app (.next .in1) | exact .next (.app .in1) | exact .next (.next (.app .in1)) | exact .next (.app .here) | exact .next (.next (.app .here)) | exact .next (.next (.next (.app .here))) | exact .next (.next (.next (.next (.app .here))))) rfl trivial rfl rfl Try.underlying3 rfl rfl (by rfl) ?_
                refine G.fix (d := 98) (v := .int .i64 (j : Int)) rfl ?_
                refine G.assignI rfl trivial rfl rfl rfl ?_
                refine G.nil ?_
                refine C.seq ?_
                refine C.region ?_
                obtain ⟨rr, hrr⟩ : ∃ rr : Nat, rr = j := ⟨_, rfl⟩
                rw [← hrr] at hA
                refine G.fix (d := 11) (v := .int .i64 (rr : Int)) (by show Value.int .i64 (j : Int) = _; rw [hrr]) ?_
                refine G.assignI rfl trivial rfl rfl rfl ?_
                refine G.less (fun _ h => h.tail) ?_
                refine G.nil ?_
                refine C.seq ?_
                refine C.seq ?_
                refine C.region ?_
                refine G.assignI rfl trivial rfl rfl rfl ?_
                refine G.nil ?_
                refine C.block ?_
                refine C.loop (fun m F D' L' => ∃ kk : Nat, kk ≤ 35 ∧ m = 35 - kk ∧ F 24 = .int .i64 ((kk : Int) - 1) ∧ F 23 = .int .i64 (countU (pg 1) (kk - 1) : Nat) ∧ F 12 = .int .i64 i ∧ F 11 = .int .i64 (rr : Int) ∧ F 10 = ptr b10 ∧ F 9 = ptr bs ∧ F 7 = .slice (some ⟨b39, 0, none⟩) 256 256 ∧ F 0 = .int .u8 (b.toNat : Int) ∧ F 1 = .slice (some ⟨p1, o1, none⟩) ls.length c1 ∧ D' = [] ∧ [(b10, .row (U.map Value.bool) 31 32)] :: sg :: [] = L') ⟨_, ⟨0, by omega, rfl, rfl, rfl, rfl, rfl, rfl, rfl, rfl, rfl, rfl, rfl, rfl⟩⟩ ?_
                rintro m F D' L' ⟨kk, hkk, rfl, h24, h23, h12, h11, h10, h9, h7, h0', h1', rfl, rfl⟩
                refine C.fix (d := 24) h24 ?_
                refine C.fix (d := 23) h23 ?_
                refine C.fix (d := 12) h12 ?_
                refine C.fix (d := 11) h11 ?_
                refine C.fix (d := 10) h10 ?_
                refine C.fix (d := 9) h9 ?_
                refine C.fix (d := 7) h7 ?_
                refine C.fix (d := 0) h0' ?_
                refine C.fix (d := 1) h1' ?_
                refine C.seq ?_
                refine C.seq ?_
                refine C.region ?_
                refine G.moveI rfl trivial rfl rfl rfl ?_
                refine G.bin rfl trivial rfl rfl rfl rfl rfl ?_
                refine G.nil ?_
                refine C.cond _ rfl ?_ ?_
                · intro hc14
                  have hcs := cnt_step (pg 1) kk
                  have hcl := countU_le (pg 1) (kk - 1)
                  refine C.skip ?_
                  refine C.seq ?_
                  refine C.block ?_
                  refine C.seq ?_
                  refine C.region ?_
                  refine G.moveI rfl trivial rfl rfl rfl ?_
                  refine G.bin rfl trivial rfl rfl rfl rfl rfl ?_
                  refine G.moveB rfl trivial rfl rfl rfl ?_
                  refine G.fork (t := 190) _ rfl ?_ ?_
                  · intro hg190
                    refine G.moveI rfl ⟨_, rfl, rfl, rfl⟩ rfl rfl rfl ?_
                    refine G.bin rfl ⟨_, rfl, rfl, rfl⟩ rfl rfl rfl rfl rfl ?_
                    first | refine G.pickT rfl trivial rfl rfl rfl rfl ?_ | refine G.pickF rfl trivial rfl rfl rfl rfl ?_
                    refine G.moveB rfl trivial rfl rfl rfl ?_
                    refine G.fork (t := 194) _ rfl ?_ ?_
                    · intro hg194
                      refine G.moveI rfl ⟨_, rfl, rfl, rfl⟩ rfl rfl rfl ?_
                      obtain ⟨ux, hux, hhas⟩ := hA.has (k := (kk : Int) - 1) (by omega)
                      refine G.indexAddrArr rfl ⟨_, rfl, rfl, rfl⟩ rfl rfl Try.underlying31 I4 rfl rfl (by omega) ?_
                      refine G.loadAt (v := .bool ux) .here rfl ⟨_, rfl, rfl, rfl⟩ rfl rfl Try.underlying4 rfl rfl (by rw [show 0 + ((kk : Int) - 1).toNat * 1 = ((kk : Int) - 1).toNat by omega]; exact boolsV_at hux) ?_
                      first | refine G.pickT rfl trivial rfl rfl rfl rfl ?_ | refine G.pickF rfl trivial rfl rfl rfl rfl ?_
                      refine G.assignB rfl trivial rfl rfl rfl ?_
                      refine G.nil ?_
                      refine C.seq ?_
                      refine C.region ?_
                      refine G.moveP rfl trivial rfl rfl rfl ?_
                      refine G.makeInterface rfl trivial rfl rfl Try.underlying29 rfl ?_
                      refine G.moveI rfl trivial rfl rfl rfl ?_
                      refine G.call E15 rfl rfl trivial rfl rfl (used_spec W0 _ _ _ _ hA.us.len (aread_sheet W0 [_] [] bs pg sg hsg) ((kk : Int) - 1)) rfl ?_
                      rintro e L2 ⟨rfl, rfl⟩
                      rw [hhas] at hcs ⊢
                      refine G.moveU rfl trivial rfl rfl rfl ?_
                      refine G.extractL rfl trivial rfl rfl rfl rfl ?_
                      refine G.extractL rfl trivial rfl rfl rfl rfl ?_
                      refine G.assignB rfl trivial rfl rfl rfl ?_
                      refine G.assignI rfl trivial rfl rfl rfl ?_
                      refine G.nil ?_
                      refine C.seq ?_
                      refine C.seq ?_
                      refine C.region ?_
                      refine G.moveB rfl trivial rfl rfl rfl ?_
                      refine G.moveB rfl trivial rfl rfl rfl ?_
                      refine G.boolNe rfl trivial rfl rfl Try.underlying4 rfl rfl ?_
                      refine G.fix (d := 208) (v := .bool false) (by show Value.bool (ux != ux) = _; cases ux <;> rfl) ?_
                      refine G.moveB rfl trivial rfl rfl rfl ?_
                      refine G.moveI rfl ⟨_, rfl, rfl, rfl⟩ rfl rfl rfl ?_
                      refine G.bin rfl ⟨_, rfl, rfl, rfl⟩ rfl rfl rfl rfl rfl ?_
                      refine G.no (t := 211) rfl (by simp) ?_
                      first | refine G.pickT rfl trivial rfl rfl rfl rfl ?_ | refine G.pickF rfl trivial rfl rfl rfl rfl ?_
                      refine G.nil ?_
                      refine C.condF rfl ?_
                      refine C.skip ?_
                      refine C.seq ?_
                      refine C.region ?_
                      refine G.moveB rfl trivial rfl rfl rfl ?_
                      refine G.nil ?_
                      refine C.condB _ rfl ?_ ?_
                      · intro hc16
                        refine C.region ?_
                        refine G.moveI rfl trivial rfl rfl rfl ?_
                        refine G.add rfl trivial rfl rfl rfl rfl (by omega) ?_
                        refine G.assignI rfl trivial rfl rfl rfl ?_
                        refine G.nil ?_
                        refine C.region ?_
                        refine G.moveI rfl trivial rfl rfl rfl ?_
                        refine G.add rfl trivial rfl rfl rfl rfl (by omega) ?_
                        refine G.assignI rfl trivial rfl rfl rfl ?_
                        refine G.nil ?_
                        exact ⟨35 - (kk + 1), by omega, kk + 1, by omega, rfl, (by show Value.int .i64 _ = _; congr 1; omega), (by show Value.int .i64 (((countU (pg 1) (kk - 1) : Nat) : Int) + 1) = Value.int .i64 ((countU (pg 1) (kk + 1 - 1) : Nat) : Int); rw [hcs, hc16]; rfl), rfl, rfl, rfl, rfl, rfl, rfl, rfl, rfl, rfl⟩
                      · intro hc16
                        refine C.skip ?_
                        refine C.region ?_
                        refine G.moveI rfl trivial rfl rfl rfl ?_
                        refine G.add rfl trivial rfl rfl rfl rfl (by omega) ?_
                        refine G.assignI rfl trivial rfl rfl rfl ?_
                        refine G.nil ?_
                        exact ⟨35 - (kk + 1), by omega, kk + 1, by omega, rfl, (by show Value.int .i64 _ = _; congr 1; omega), (by show Value.int .i64 ((countU (pg 1) (kk - 1) : Nat) : Int) = Value.int .i64 ((countU (pg 1) (kk + 1 - 1) : Nat) : Int); rw [hcs, hc16]; rfl), rfl, rfl, rfl, rfl, rfl, rfl, rfl, rfl, rfl⟩
                    · intro hg194
                      refine G.skip rfl rfl rfl rfl rfl rfl ?_
                      refine G.skip rfl rfl rfl rfl rfl rfl ?_
                      refine G.skip rfl rfl rfl rfl rfl rfl ?_
                      first | refine G.pickT rfl trivial rfl rfl rfl rfl ?_ | refine G.pickF rfl trivial rfl rfl rfl rfl ?_
                      refine G.assignB rfl trivial rfl rfl rfl ?_
                      refine G.nil ?_
                      refine C.seq ?_
                      refine C.region ?_
                      refine G.moveP rfl trivial rfl rfl rfl ?_
                      refine G.makeInterface rfl trivial rfl rfl Try.underlying29 rfl ?_
                      refine G.moveI rfl trivial rfl rfl rfl ?_
                      refine G.call E15 rfl rfl trivial rfl rfl (used_spec W0 _ _ _ _ hA.us.len (aread_sheet W0 [_] [] bs pg sg hsg) ((kk : Int) - 1)) rfl ?_
                      rintro e L2 ⟨rfl, rfl⟩
                      have hhas := has_out (pg 1) (k := (kk : Int) - 1) (by omega)
                      rw [hhas] at hcs ⊢
                      refine G.moveU rfl trivial rfl rfl rfl ?_
                      refine G.extractL rfl trivial rfl rfl rfl rfl ?_
                      refine G.extractL rfl trivial rfl rfl rfl rfl ?_
                      refine G.assignB rfl trivial rfl rfl rfl ?_
                      refine G.assignI rfl trivial rfl rfl rfl ?_
                      refine G.nil ?_
                      refine C.seq ?_
                      refine C.seq ?_
                      refine C.region ?_
                      refine G.moveB rfl trivial rfl rfl rfl ?_
                      refine G.moveB rfl trivial rfl rfl rfl ?_
                      refine G.boolNe rfl trivial rfl rfl Try.underlying4 rfl rfl ?_
                      refine G.fix (d := 208) (v := .bool false) (rfl) ?_
                      refine G.moveB rfl trivial rfl rfl rfl ?_
                      refine G.moveI rfl ⟨_, rfl, rfl, rfl⟩ rfl rfl rfl ?_
                      refine G.bin rfl ⟨_, rfl, rfl, rfl⟩ rfl rfl rfl rfl rfl ?_
                      refine G.no (t := 211) rfl (by simp) ?_
                      first | refine G.pickT rfl trivial rfl rfl rfl rfl ?_ | refine G.pickF rfl trivial rfl rfl rfl rfl ?_
                      refine G.nil ?_
                      refine C.condF rfl ?_
                      refine C.skip ?_
                      refine C.seq ?_
                      refine C.region ?_
                      refine G.moveB rfl trivial rfl rfl rfl ?_
                      refine G.nil ?_
                      refine C.condF rfl ?_
                      refine C.skip ?_
                      refine C.region ?_
                      refine G.moveI rfl trivial rfl rfl rfl ?_
                      refine G.add rfl trivial rfl rfl rfl rfl (by omega) ?_
                      refine G.assignI rfl trivial rfl rfl rfl ?_
                      refine G.nil ?_
                      exact ⟨35 - (kk + 1), by omega, kk + 1, by omega, rfl, (by show Value.int .i64 _ = _; congr 1; omega), (by show Value.int .i64 ((countU (pg 1) (kk - 1) : Nat) : Int) = Value.int .i64 ((countU (pg 1) (kk + 1 - 1) : Nat) : Int); rw [hcs]; rfl), rfl, rfl, rfl, rfl, rfl, rfl, rfl, rfl, rfl⟩
                  · intro hg190
                    refine G.skip rfl rfl rfl rfl rfl rfl ?_
                    refine G.skip rfl rfl rfl rfl rfl rfl ?_
                    first | refine G.pickT rfl trivial rfl rfl rfl rfl ?_ | refine G.pickF rfl trivial rfl rfl rfl rfl ?_
                    refine G.moveB rfl trivial rfl rfl rfl ?_
                    refine G.skip rfl rfl rfl rfl rfl rfl ?_
                    refine G.skip rfl rfl rfl rfl rfl rfl ?_
                    refine G.skip rfl rfl rfl rfl rfl rfl ?_
                    first | refine G.pickT rfl trivial rfl rfl rfl rfl ?_ | refine G.pickF rfl trivial rfl rfl rfl rfl ?_
                    refine G.assignB rfl trivial rfl rfl rfl ?_
                    refine G.nil ?_
                    refine C.seq ?_
                    refine C.region ?_
                    refine G.moveP rfl trivial rfl rfl rfl ?_
                    refine G.makeInterface rfl trivial rfl rfl Try.underlying29 rfl ?_
                    refine G.moveI rfl trivial rfl rfl rfl ?_
                    refine G.call E15 rfl rfl trivial rfl rfl (used_spec W0 _ _ _ _ hA.us.len (aread_sheet W0 [_] [] bs pg sg hsg) ((kk : Int) - 1)) rfl ?_
                    rintro e L2 ⟨rfl, rfl⟩
                    have hhas := has_out (pg 1) (k := (kk : Int) - 1) (by omega)
                    rw [hhas] at hcs ⊢
                    refine G.moveU rfl trivial rfl rfl rfl ?_
                    refine G.extractL rfl trivial rfl rfl rfl rfl ?_
                    refine G.extractL rfl trivial rfl rfl rfl rfl ?_
                    refine G.assignB rfl trivial rfl rfl rfl ?_
                    refine G.assignI rfl trivial rfl rfl rfl ?_
                    refine G.nil ?_
                    refine C.seq ?_
                    refine C.seq ?_
                    refine C.region ?_
                    refine G.moveB rfl trivial rfl rfl rfl ?_
                    refine G.moveB rfl trivial rfl rfl rfl ?_
                    refine G.boolNe rfl trivial rfl rfl Try.underlying4 rfl rfl ?_
                    refine G.fix (d := 208) (v := .bool false) (rfl) ?_
                    refine G.moveB rfl trivial rfl rfl rfl ?_
                    refine G.moveI rfl ⟨_, rfl, rfl, rfl⟩ rfl rfl rfl ?_
                    refine G.bin rfl ⟨_, rfl, rfl, rfl⟩ rfl rfl rfl rfl rfl ?_
                    refine G.no (t := 211) rfl (by simp) ?_
                    first | refine G.pickT rfl trivial rfl rfl rfl rfl ?_ | refine G.pickF rfl trivial rfl rfl rfl rfl ?_
                    refine G.nil ?_
                    refine C.condF rfl ?_
                    refine C.skip ?_
                    refine C.seq ?_
                    refine C.region ?_
                    refine G.moveB rfl trivial rfl rfl rfl ?_
                    refine G.nil ?_
                    refine C.condF rfl ?_
                    refine C.skip ?_
                    refine C.region ?_
                    refine G.moveI rfl trivial rfl rfl rfl ?_
                    refine G.add rfl trivial rfl rfl rfl rfl (by omega) ?_
                    refine G.assignI rfl trivial rfl rfl rfl ?_
                    refine G.nil ?_
                    exact ⟨35 - (kk + 1), by omega, kk + 1, by omega, rfl, (by show Value.int .i64 _ = _; congr 1; omega), (by show Value.int .i64 ((countU (pg 1) (kk - 1) : Nat) : Int) = Value.int .i64 ((countU (pg 1) (kk + 1 - 1) : Nat) : Int); rw [hcs]; rfl), rfl, rfl, rfl, rfl, rfl, rfl, rfl, rfl, rfl⟩
                · intro hc14
                  obtain rfl : kk = 35 := by omega
                  refine C.exit ?_
                  refine C.seq ?_
                  refine C.region ?_
                  refine G.moveP rfl trivial rfl rfl rfl ?_
                  refine G.makeInterface rfl trivial rfl rfl Try.underlying29 rfl ?_
                  refine G.call E16 rfl rfl trivial rfl rfl (count_spec W0 _ _ _ _ hA.us.len (aread_sheet W0 [_] [] bs pg sg hsg)) rfl ?_
                  rintro e L2 ⟨rfl, rfl⟩
                  rw [← countU_end]
                  refine G.moveU rfl trivial rfl rfl rfl ?_
                  refine G.extractL rfl trivial rfl rfl rfl rfl ?_
                  refine G.extractL rfl trivial rfl rfl rfl rfl ?_
                  refine G.assignI rfl trivial rfl rfl rfl ?_
                  refine G.assignI rfl trivial rfl rfl rfl ?_
                  refine G.nil ?_
                  refine C.seq ?_
                  refine C.region ?_
                  refine G.moveP rfl trivial rfl rfl rfl ?_
                  refine G.makeInterface rfl trivial rfl rfl Try.underlying29 rfl ?_
                  refine G.call E17 rfl rfl trivial rfl rfl (root_spec W0 _ _ _ _ hA.us.len (aread_sheet W0 [_] [] bs pg sg hsg)) rfl ?_
                  rintro e L2 ⟨rfl, rfl⟩
                  rw [hA.us.root, if_pos hA.root]
                  refine G.moveU rfl trivial rfl rfl rfl ?_
                  refine G.extractL rfl trivial rfl rfl rfl rfl ?_
                  refine G.extractL rfl trivial rfl rfl rfl rfl ?_
                  refine G.assignI rfl trivial rfl rfl rfl ?_
                  refine G.assignI rfl trivial rfl rfl rfl ?_
                  refine G.nil ?_
                  refine C.seq ?_
                  refine C.region ?_
                  refine G.moveI rfl trivial rfl rfl rfl ?_
                  refine G.moveI rfl trivial rfl rfl rfl ?_
                  refine G.bin rfl trivial rfl rfl rfl rfl rfl ?_
                  refine G.no (t := 230) rfl (by simp) ?_
                  refine G.moveB rfl trivial rfl rfl rfl ?_
                  refine G.moveI rfl ⟨_, rfl, rfl, rfl⟩ rfl rfl rfl ?_
                  refine G.bin rfl ⟨_, rfl, rfl, rfl⟩ rfl rfl rfl rfl rfl ?_
                  refine G.no (t := 233) rfl (by simp) ?_
                  first | refine G.pickT rfl trivial rfl rfl rfl rfl ?_ | refine G.pickF rfl trivial rfl rfl rfl rfl ?_
                  refine G.moveB rfl trivial rfl rfl rfl ?_
                  refine G.moveI rfl ⟨_, rfl, rfl, rfl⟩ rfl rfl rfl ?_
                  refine G.moveI rfl ⟨_, rfl, rfl, rfl⟩ rfl rfl rfl ?_
                  refine G.bin rfl ⟨_, rfl, rfl, rfl⟩ rfl rfl rfl rfl rfl ?_
                  refine G.no (t := 238) rfl (by simp) ?_
                  first | refine G.pickT rfl trivial rfl rfl rfl rfl ?_ | refine G.pickF rfl trivial rfl rfl rfl rfl ?_
                  refine G.moveB rfl trivial rfl rfl rfl ?_
                  refine G.moveI rfl ⟨_, rfl, rfl, rfl⟩ rfl rfl rfl ?_
                  refine G.bin rfl ⟨_, rfl, rfl, rfl⟩ rfl rfl rfl rfl rfl ?_
                  refine G.no (t := 242) rfl (by simp) ?_
                  first | refine G.pickT rfl trivial rfl rfl rfl rfl ?_ | refine G.pickF rfl trivial rfl rfl rfl rfl ?_
                  refine G.nil ?_
                  refine C.condF rfl ?_
                  refine C.skip ?_
                  refine C.region ?_
                  refine G.moveI rfl trivial rfl rfl rfl ?_
                  refine G.add rfl trivial rfl rfl rfl rfl (by omega) ?_
                  refine G.assignI rfl trivial rfl rfl rfl ?_
                  refine G.nil ?_
                  exact ⟨ls.length - (i + 1), by omega, i + 1, pg, sg, u, rr, U, by omega, hsg, hA, rfl, rfl, rfl, rfl, rfl, rfl, rfl, rfl, rfl, rfl⟩
              · intro hg79
                refine G.fieldAddr rfl ⟨_, rfl, rfl, rfl⟩ rfl rfl Try.underlying33 rfl I3 rfl rfl ?_
                refine G.loadAt (by first | exact .here | exact .next .here | exact .next (.next .here) | exact .next (.next (.next .here)) | exact .next (.next (.next (.next .here))) | exact .next (.next (.next (.next (.next .here)))) | exact .next (.next (.next (.next (.next (.next .here))))) | exact .next (.next (.next (.next (.next (.next (.next .here)))))) | exact .in1 | exact .next .in1 | exact .next (.next .in1) | exact .next (.next (.next .in1)) | exact .next (.next (.next (.next .in1))) | exact .in2 | exact .next .in2 | exact .next (.next .in2) | exact .next (.next (.next .in2)) | exact .next (.next (.next (.next .in2))) | exact .app .here | exact .app (.next .here) | exact .app (.next (.next .here)) | exact .app (.next (.next (.next .here))) | exact .app (.next (.next (.next (.next .here)))) | exact .app (.next (.next (.next (.next (.next .here))))) | exact .app (.next (.next (.next (.next (.next (.next .here)))))) | exact .app (.next (.next (.next (.next (.next (.next (.next .here))))))) | exact .app .in1 | exact .app .in2 | exact .app (.next .in1) | exact .next (.app .in1) | exact .next (.next (.app .in1)) | exact .next (.app .here) | exact .next (.next (.app .here)) | exact .next (.next (.next (.app .here))) | exact .next (.next (.next (.next (.app .here))))) rfl ⟨_, rfl, rfl, rfl⟩ rfl rfl Try.underlying3 rfl rfl (by rfl) ?_
                refine G.bin rfl ⟨_, rfl, rfl, rfl⟩ rfl rfl rfl rfl rfl ?_
                refine G.moveB rfl ⟨_, rfl, rfl, rfl⟩ rfl rfl rfl ?_
                refine G.yes (t := 83) rfl (by omega) ?_
                refine G.fieldAddr rfl ⟨_, rfl, rfl, rfl⟩ rfl rfl Try.underlying33 rfl I3 rfl rfl ?_
                refine G.loadAt (by first | exact .here | exact .next .here | exact .next (.next .here) | exact .next (.next (.next .here)) | exact .next (.next (.next (.next .here))) | exact .next (.next (.next (.next (.next .here)))) | exact .next (.next (.next (.next (.next (.next .here))))) | exact .next (.next (.next (.next (.next (.next (.next .here)))))) | exact .in1 | exact .next .in1 | exact .next (.next .in1) | exact .next (.next (.next .in1)) | exact .next (.next (.next (.next .in1))) | exact .in2 | exact .next .in2 | exact .next (.next .in2) | exact .next (.next (.next .in2)) | exact .next (.next (.next (.next .in2))) | exact .app .here | exact .app (.next .here) | exact .app (.next (.next .here)) | exact .app (.next (.next (.next .here))) | exact .app (.next (.next (.next (.next .here)))) | exact .app (.next (.next (.next (.next (.next .here))))) | exact .app (.next (.next (.next (.next (.next (.next .here)))))) | exact .app (.next (.next (.next (.next (.next (.next (.next .here))))))) | exact .app .in1 | exact .app .in2 | exact .app (.next .in1) | exact .next (.app .in1) | exact .next (.next (.app .in1)) | exact .next (.app .here) | exact .next (.next (.app .here)) | exact .next (.next (.next (.app .here))) | exact .next (.next (.next (.next (.app .here))))) rfl ⟨_, rfl, rfl, rfl⟩ rfl rfl Try.underlying3 rfl rfl (by rfl) ?_
                refine G.bin rfl ⟨_, rfl, rfl, rfl⟩ rfl rfl rfl rfl rfl ?_
                refine G.yes (t := 86) rfl (by omega) ?_
                first | refine G.pickT rfl ⟨_, rfl, rfl, rfl⟩ rfl rfl rfl rfl ?_ | refine G.pickF rfl ⟨_, rfl, rfl, rfl⟩ rfl rfl rfl rfl ?_
                first | refine G.pickT rfl trivial rfl rfl rfl rfl ?_ | refine G.pickF rfl trivial rfl rfl rfl rfl ?_
                refine G.assignB rfl trivial rfl rfl rfl ?_
                refine G.nil ?_
                refine C.seq ?_
                refine C.seq ?_
                refine C.region ?_
                refine G.moveP rfl trivial rfl rfl rfl ?_
                refine G.fieldAddr rfl trivial rfl rfl Try.underlying33 rfl I3 rfl rfl ?_
                refine G.loadAt (by first | exact .here | exact .next .here | exact .next (.next .here) | exact .next (.next (.next .here)) | exact .next (.next (.next (.next .here))) | exact .next (.next (.next (.next (.next .here)))) | exact .next (.next (.next (.next (.next (.next .here))))) | exact .next (.next (.next (.next (.next (.next (.next .here)))))) | exact .in1 | exact .next .in1 | exact .next (.next .in1) | exact .next (.next (.next .in1)) | exact .next (.next (.next (.next .in1))) | exact .in2 | exact .next .in2 | exact .next (.next .in2) | exact .next (.next (.next .in2)) | exact .next (.next (.next (.next .in2))) | exact .app .here | exact .app (.next .here) | exact .app (.next (.next .here)) | exact .app (.next (.next (.next .here))) | exact .app (.next (.next (.next (.next .here)))) | exact .app (.next (.next (.next (.next (.next .here))))) | exact .app (.next (.next (.next (.next (.next (.next .here)))))) | exact .app (.next (.next (.next (.next (.next (.next (.next .here))))))) | exact .app .in1 | exact .app .in2 | exact .app (.next .in1) | exact .next (.app .in1) | exact .next (.next (.app .in1)) | exact .next (.app .here) | exact .next (.next (.app .here)) | exact .next (.next (.next (.app .here))) | exact .next (.next (.next (.next (.app .here))))) rfl trivial rfl rfl Try.underlying3 rfl rfl (by rfl) ?_
                refine G.call E14 rfl rfl trivial rfl rfl (setroot_ok W0 [_, _] [] bs pg sg hsg hA.us.len j (by omega)) rfl ?_
                rintro e L2 ⟨sg, hsg, rfl, rfl⟩
                have hA := hA.rooted (i := j) (by omega)
                generalize updP pg 1 ((pg 1).set 4 (UInt8.ofNat j)) = pg at *
                refine G.bin rfl trivial rfl rfl rfl rfl rfl ?_
                refine G.yes (t := 93) rfl rfl ?_
                refine G.moveB rfl trivial rfl rfl rfl ?_
                refine G.boolNe rfl trivial rfl rfl Try.underlying4 rfl rfl ?_
                refine G.nil ?_
                refine C.condF rfl ?_
                refine C.skip ?_
                refine C.seq ?_
                refine C.region ?_
                refine G.moveB rfl trivial rfl rfl rfl ?_
                refine G.nil ?_
                refine C.condT rfl ?_
                refine C.region ?_
                refine G.fieldAddr rfl trivial rfl rfl Try.underlying33 rfl I3 rfl rfl ?_
                refine G.loadAt (by first | exact .here | exact .next .here | exact .next (.next .here) | exact .next (.next (.next .here)) | exact .next (.next (.next (.next .here))) | exact .next (.next (.next (.next (.next .here)))) | exact .next (.next (.next (.next (.next (.next .here))))) | exact .next (.next (.next (.next (.next (.next (.next .here)))))) | exact .in1 | exact .next .in1 | exact .next (.next .in1) | exact .next (.next (.next .in1)) | exact .next (.next (.next (.next .in1))) | exact .in2 | exact .next .in2 | exact .next (.next .in2) | exact .next (.next (.next .in2)) | exact .next (.next (.next (.next .in2))) | exact .app .here | exact .app (.next .here) | exact .app (.next (.next .here)) | exact .app (.next (.next (.next .here))) | exact .app (.next (.next (.next (.next .here)))) | exact .app (.next (.next (.next (.next (.next .here))))) | exact .app (.next (.next (.next (.next (.next (.next .here)))))) | exact .app (.next (.next (.next (.next (.next (.next (.next .here))))))) | exact .app .in1 | exact .app .in2 | exact .app (.next .in1) | exact .next (.app .in1) | exact .next (.next (.app .in1)) | exact .next (.app .here) | exact .next (.next (.app .here)) | exact .next (.next (.next (.app .here))) | exact .next (.next (.next (.next (.app .here))))) rfl trivial rfl rfl Try.underlying3 rfl rfl (by rfl) ?_
                refine G.fix (d := 98) (v := .int .i64 (j : Int)) rfl ?_
                refine G.assignI rfl trivial rfl rfl rfl ?_
                refine G.nil ?_
                refine C.seq ?_
                refine C.region ?_
                obtain ⟨rr, hrr⟩ : ∃ rr : Nat, rr = j := ⟨_, rfl⟩
                rw [← hrr] at hA
                refine G.fix (d := 11) (v := .int .i64 (rr : Int)) (by show Value.int .i64 (j : Int) = _; rw [hrr]) ?_
                refine G.assignI rfl trivial rfl rfl rfl ?_
                refine G.less (fun _ h => h.tail) ?_
                refine G.nil ?_
                refine C.seq ?_
                refine C.seq ?_
                refine C.region ?_
                refine G.assignI rfl trivial rfl rfl rfl ?_
                refine G.nil ?_
                refine C.block ?_
                refine C.loop (fun m F D' L' => ∃ kk : Nat, kk ≤ 35 ∧ m = 35 - kk ∧ F 24 = .int .i64 ((kk : Int) - 1) ∧ F 23 = .int .i64 (countU (pg 1) (kk - 1) : Nat) ∧ F 12 = .int .i64 i ∧ F 11 = .int .i64 (rr : Int) ∧ F 10 = ptr b10 ∧ F 9 = ptr bs ∧ F 7 = .slice (some ⟨b39, 0, none⟩) 256 256 ∧ F 0 = .int .u8 (b.toNat : Int) ∧ F 1 = .slice (some ⟨p1, o1, none⟩) ls.length c1 ∧ D' = [] ∧ [(b10, .row (U.map Value.bool) 31 32)] :: sg :: [] = L') ⟨_, ⟨0, by omega, rfl, rfl, rfl, rfl, rfl, rfl, rfl, rfl, rfl, rfl, rfl, rfl⟩⟩ ?_
                rintro m F D' L' ⟨kk, hkk, rfl, h24, h23, h12, h11, h10, h9, h7, h0', h1', rfl, rfl⟩
                refine C.fix (d := 24) h24 ?_
                refine C.fix (d := 23) h23 ?_
                refine C.fix (d := 12) h12 ?_
                refine C.fix (d := 11) h11 ?_
                refine C.fix (d := 10) h10 ?_
                refine C.fix (d := 9) h9 ?_
                refine C.fix (d := 7) h7 ?_
                refine C.fix (d := 0) h0' ?_
                refine C.fix (d := 1) h1' ?_
                refine C.seq ?_
                refine C.seq ?_
                refine C.region ?_
                refine G.moveI rfl trivial rfl rfl rfl ?_
                refine G.bin rfl trivial rfl rfl rfl rfl rfl ?_
                refine G.nil ?_
                refine C.cond _ rfl ?_ ?_
                · intro hc14
                  have hcs := cnt_step (pg 1) kk
                  have hcl := countU_le (pg 1) (kk - 1)
                  refine C.skip ?_
                  refine C.seq ?_
                  refine C.block ?_
                  refine C.seq ?_
                  refine C.region ?_
                  refine G.moveI rfl trivial rfl rfl rfl ?_
                  refine G.bin rfl trivial rfl rfl rfl rfl rfl ?_
                  refine G.moveB rfl trivial rfl rfl rfl ?_
                  refine G.fork (t := 190) _ rfl ?_ ?_
                  · intro hg190
                    refine G.moveI rfl ⟨_, rfl, rfl, rfl⟩ rfl rfl rfl ?_
                    refine G.bin rfl ⟨_, rfl, rfl, rfl⟩ rfl rfl rfl rfl rfl ?_
                    first | refine G.pickT rfl trivial rfl rfl rfl rfl ?_ | refine G.pickF rfl trivial rfl rfl rfl rfl ?_
                    refine G.moveB rfl trivial rfl rfl rfl ?_
                    refine G.fork (t := 194) _ rfl ?_ ?_
                    · intro hg194
                      refine G.moveI rfl ⟨_, rfl, rfl, rfl⟩ rfl rfl rfl ?_
                      obtain ⟨ux, hux, hhas⟩ := hA.has (k := (kk : Int) - 1) (by omega)
                      refine G.indexAddrArr rfl ⟨_, rfl, rfl, rfl⟩ rfl rfl Try.underlying31 I4 rfl rfl (by omega) ?_
                      refine G.loadAt (v := .bool ux) .here rfl ⟨_, rfl, rfl, rfl⟩ rfl rfl Try.underlying4 rfl rfl (by rw [show 0 + ((kk : Int) - 1).toNat * 1 = ((kk : Int) - 1).toNat by omega]; exact boolsV_at hux) ?_
                      first | refine G.pickT rfl trivial rfl rfl rfl rfl ?_ | refine G.pickF rfl trivial rfl rfl rfl rfl ?_
                      refine G.assignB rfl trivial rfl rfl rfl ?_
                      refine G.nil ?_
                      refine C.seq ?_
                      refine C.region ?_
                      refine G.moveP rfl trivial rfl rfl rfl ?_
                      refine G.makeInterface rfl trivial rfl rfl Try.underlying29 rfl ?_
                      refine G.moveI rfl trivial rfl rfl rfl ?_
                      refine G.call E15 rfl rfl trivial rfl rfl (used_spec W0 _ _ _ _ hA.us.len (aread_sheet W0 [_] [] bs pg sg hsg) ((kk : Int) - 1)) rfl ?_
                      rintro e L2 ⟨rfl, rfl⟩
                      rw [hhas] at hcs ⊢
                      refine G.moveU rfl trivial rfl rfl rfl ?_
                      refine G.extractL rfl trivial rfl rfl rfl rfl ?_
                      refine G.extractL rfl trivial rfl rfl rfl rfl ?_
                      refine G.assignB rfl trivial rfl rfl rfl ?_
                      refine G.assignI rfl trivial rfl rfl rfl ?_
                      refine G.nil ?_
                      refine C.seq ?_
                      refine C.seq ?_
                      refine C.region ?_
                      refine G.moveB rfl trivial rfl rfl rfl ?_
                      refine G.moveB rfl trivial rfl rfl rfl ?_
                      refine G.boolNe rfl trivial rfl rfl Try.underlying4 rfl rfl ?_
                      refine G.fix (d := 208) (v := .bool false) (by show Value.bool (ux != ux) = _; cases ux <;> rfl) ?_
                      refine G.moveB rfl trivial rfl rfl rfl ?_
                      refine G.moveI rfl ⟨_, rfl, rfl, rfl⟩ rfl rfl rfl ?_
                      refine G.bin rfl ⟨_, rfl, rfl, rfl⟩ rfl rfl rfl rfl rfl ?_
                      refine G.no (t := 211) rfl (by simp) ?_
                      first | refine G.pickT rfl trivial rfl rfl rfl rfl ?_ | refine G.pickF rfl trivial rfl rfl rfl rfl ?_
                      refine G.nil ?_
                      refine C.condF rfl ?_
                      refine C.skip ?_
                      refine C.seq ?_
                      refine C.region ?_
                      refine G.moveB rfl trivial rfl rfl rfl ?_
                      refine G.nil ?_
                      refine C.condB _ rfl ?_ ?_
                      · intro hc16
                        refine C.region ?_
                        refine G.moveI rfl trivial rfl rfl rfl ?_
                        refine G.add rfl trivial rfl rfl rfl rfl (by omega) ?_
                        refine G.assignI rfl trivial rfl rfl rfl ?_
                        refine G.nil ?_
                        refine C.region ?_
                        refine G.moveI rfl trivial rfl rfl rfl ?_
                        refine G.add rfl trivial rfl rfl rfl rfl (by omega) ?_
                        refine G.assignI rfl trivial rfl rfl rfl ?_
                        refine G.nil ?_
                        exact ⟨35 - (kk + 1), by omega, kk + 1, by omega, rfl, (by show Value.int .i64 _ = _; congr 1; omega), (by show Value.int .i64 (((countU (pg 1) (kk - 1) : Nat) : Int) + 1) = Value.int .i64 ((countU (pg 1) (kk + 1 - 1) : Nat) : Int); rw [hcs, hc16]; rfl), rfl, rfl, rfl, rfl, rfl, rfl, rfl, rfl, rfl⟩
                      · intro hc16
                        refine C.skip ?_
                        refine C.region ?_
                        refine G.moveI rfl trivial rfl rfl rfl ?_
                        refine G.add rfl trivial rfl rfl rfl rfl (by omega) ?_
                        refine G.assignI rfl trivial rfl rfl rfl ?_
                        refine G.nil ?_
                        exact ⟨35 - (kk + 1), by omega, kk + 1, by omega, rfl, (by show Value.int .i64 _ = _; congr 1; omega), (by show Value.int .i64 ((countU (pg 1) (kk - 1) : Nat) : Int) = Value.int .i64 ((countU (pg 1) (kk + 1 - 1) : Nat) : Int); rw [hcs, hc16]; rfl), rfl, rfl, rfl, rfl, rfl, rfl, rfl, rfl, rfl⟩
                    · intro hg194
                      refine G.skip rfl rfl rfl rfl rfl rfl ?_
                      refine G.skip rfl rfl rfl rfl rfl rfl ?_
                      refine G.skip rfl rfl rfl rfl rfl rfl ?_
                      first | refine G.pickT rfl trivial rfl rfl rfl rfl ?_ | refine G.pickF rfl trivial rfl rfl rfl rfl ?_
                      refine G.assignB rfl trivial rfl rfl rfl ?_
                      refine G.nil ?_
                      refine C.seq ?_
                      refine C.region ?_
                      refine G.moveP rfl trivial rfl rfl rfl ?_
                      refine G.makeInterface rfl trivial rfl rfl Try.underlying29 rfl ?_
                      refine G.moveI rfl trivial rfl rfl rfl ?_
                      refine G.call E15 rfl rfl trivial rfl rfl (used_spec W0 _ _ _ _ hA.us.len (aread_sheet W0 [_] [] bs pg sg hsg) ((kk : Int) - 1)) rfl ?_
                      rintro e L2 ⟨rfl, rfl⟩
                      have hhas := has_out (pg 1) (k := (kk : Int) - 1) (by omega)
                      rw [hhas] at hcs ⊢
                      refine G.moveU rfl trivial rfl rfl rfl ?_
                      refine G.extractL rfl trivial rfl rfl rfl rfl ?_
                      refine G.extractL rfl trivial rfl rfl rfl rfl ?_
                      refine G.assignB rfl trivial rfl rfl rfl ?_
                      refine G.assignI rfl trivial rfl rfl rfl ?_
                      refine G.nil ?_
                      refine C.seq ?_
                      refine C.seq ?_
                      refine C.region ?_
                      refine G.moveB rfl trivial rfl rfl rfl ?_
                      refine G.moveB rfl trivial rfl rfl rfl ?_
                      refine G.boolNe rfl trivial rfl rfl Try.underlying4 rfl rfl ?_
                      refine G.fix (d := 208) (v := .bool false) (rfl) ?_
                      refine G.moveB rfl trivial rfl rfl rfl ?_
                      refine G.moveI rfl ⟨_, rfl, rfl, rfl⟩ rfl rfl rfl ?_
                      refine G.bin rfl ⟨_, rfl, rfl, rfl⟩ rfl rfl rfl rfl rfl ?_
                      refine G.no (t := 211) rfl (by simp) ?_
                      first | refine G.pickT rfl trivial rfl rfl rfl rfl ?_ | refine G.pickF rfl trivial rfl rfl rfl rfl ?_
                      refine G.nil ?_
                      refine C.condF rfl ?_
                      refine C.skip ?_
                      refine C.seq ?_
                      refine C.region ?_
                      refine G.moveB rfl trivial rfl rfl rfl ?_
                      refine G.nil ?_
                      refine C.condF rfl ?_
                      refine C.skip ?_
                      refine C.region ?_
                      refine G.moveI rfl trivial rfl rfl rfl ?_
                      refine G.add rfl trivial rfl rfl rfl rfl (by omega) ?_
                      refine G.assignI rfl trivial rfl rfl rfl ?_
                      refine G.nil ?_
                      exact ⟨35 - (kk + 1), by omega, kk + 1, by omega, rfl, (by show Value.int .i64 _ = _; congr 1; omega), (by show Value.int .i64 ((countU (pg 1) (kk - 1) : Nat) : Int) = Value.int .i64 ((countU (pg 1) (kk + 1 - 1) : Nat) : Int); rw [hcs]; rfl), rfl, rfl, rfl, rfl, rfl, rfl, rfl, rfl, rfl⟩
                  · intro hg190
                    refine G.skip rfl rfl rfl rfl rfl rfl ?_
                    refine G.skip rfl rfl rfl rfl rfl rfl ?_
                    first | refine G.pickT rfl trivial rfl rfl rfl rfl ?_ | refine G.pickF rfl trivial rfl rfl rfl rfl ?_
                    refine G.moveB rfl trivial rfl rfl rfl ?_
                    refine G.skip rfl rfl rfl rfl rfl rfl ?_
                    refine G.skip rfl rfl rfl rfl rfl rfl ?_
                    refine G.skip rfl rfl rfl rfl rfl rfl ?_
                    first | refine G.pickT rfl trivial rfl rfl rfl rfl ?_ | refine G.pickF rfl trivial rfl rfl rfl rfl ?_
                    refine G.assignB rfl trivial rfl rfl rfl ?_
                    refine G.nil ?_
                    refine C.seq ?_
                    refine C.region ?_
                    refine G.moveP rfl trivial rfl rfl rfl ?_
                    refine G.makeInterface rfl trivial rfl rfl Try.underlying29 rfl ?_
                    refine G.moveI rfl trivial rfl rfl rfl ?_
                    refine G.call E15 rfl rfl trivial rfl rfl (used_spec W0 _ _ _ _ hA.us.len (aread_sheet W0 [_] [] bs pg sg hsg) ((kk : Int) - 1)) rfl ?_
                    rintro e L2 ⟨rfl, rfl⟩
                    have hhas := has_out (pg 1) (k := (kk : Int) - 1) (by omega)
                    rw [hhas] at hcs ⊢
                    refine G.moveU rfl trivial rfl rfl rfl ?_
                    refine G.extractL rfl trivial rfl rfl rfl rfl ?_
                    refine G.extractL rfl trivial rfl rfl rfl rfl ?_
                    refine G.assignB rfl trivial rfl rfl rfl ?_
                    refine G.assignI rfl trivial rfl rfl rfl ?_
                    refine G.nil ?_
                    refine C.seq ?_
                    refine C.seq ?_
                    refine C.region ?_
                    refine G.moveB rfl trivial rfl rfl rfl ?_
                    refine G.moveB rfl trivial rfl rfl rfl ?_
                    refine G.boolNe rfl trivial rfl rfl Try.underlying4 rfl rfl ?_
                    refine G.fix (d := 208) (v := .bool false) (rfl) ?_
                    refine G.moveB rfl trivial rfl rfl rfl ?_
                    refine G.moveI rfl ⟨_, rfl, rfl, rfl⟩ rfl rfl rfl ?_
                    refine G.bin rfl ⟨_, rfl, rfl, rfl⟩ rfl rfl rfl rfl rfl ?_
                    refine G.no (t := 211) rfl (by simp) ?_
                    first | refine G.pickT rfl trivial rfl rfl rfl rfl ?_ | refine G.pickF rfl trivial rfl rfl rfl rfl ?_
                    refine G.nil ?_
                    refine C.condF rfl ?_
                    refine C.skip ?_
                    refine C.seq ?_
                    refine C.region ?_
                    refine G.moveB rfl trivial rfl rfl rfl ?_
                    refine G.nil ?_
                    refine C.condF rfl ?_
                    refine C.skip ?_
                    refine C.region ?_
                    refine G.moveI rfl trivial rfl rfl rfl ?_
                    refine G.add rfl trivial rfl rfl rfl rfl (by omega) ?_
                    refine G.assignI rfl trivial rfl rfl rfl ?_
                    refine G.nil ?_
                    exact ⟨35 - (kk + 1), by omega, kk + 1, by omega, rfl, (by show Value.int .i64 _ = _; congr 1; omega), (by show Value.int .i64 ((countU (pg 1) (kk - 1) : Nat) : Int) = Value.int .i64 ((countU (pg 1) (kk + 1 - 1) : Nat) : Int); rw [hcs]; rfl), rfl, rfl, rfl, rfl, rfl, rfl, rfl, rfl, rfl⟩
                · intro hc14
                  obtain rfl : kk = 35 := by omega
                  refine C.exit ?_
                  refine C.seq ?_
                  refine C.region ?_
                  refine G.moveP rfl trivial rfl rfl rfl ?_
                  refine G.makeInterface rfl trivial rfl rfl Try.underlying29 rfl ?_
                  refine G.call E16 rfl rfl trivial rfl rfl (count_spec W0 _ _ _ _ hA.us.len (aread_sheet W0 [_] [] bs pg sg hsg)) rfl ?_
                  rintro e L2 ⟨rfl, rfl⟩
                  rw [← countU_end]
                  refine G.moveU rfl trivial rfl rfl rfl ?_
                  refine G.extractL rfl trivial rfl rfl rfl rfl ?_
                  refine G.extractL rfl trivial rfl rfl rfl rfl ?_
                  refine G.assignI rfl trivial rfl rfl rfl ?_
                  refine G.assignI rfl trivial rfl rfl rfl ?_
                  refine G.nil ?_
                  refine C.seq ?_
                  refine C.region ?_
                  refine G.moveP rfl trivial rfl rfl rfl ?_
                  refine G.makeInterface rfl trivial rfl rfl Try.underlying29 rfl ?_
                  refine G.call E17 rfl rfl trivial rfl rfl (root_spec W0 _ _ _ _ hA.us.len (aread_sheet W0 [_] [] bs pg sg hsg)) rfl ?_
                  rintro e L2 ⟨rfl, rfl⟩
                  rw [hA.us.root, if_pos hA.root]
                  refine G.moveU rfl trivial rfl rfl rfl ?_
                  refine G.extractL rfl trivial rfl rfl rfl rfl ?_
                  refine G.extractL rfl trivial rfl rfl rfl rfl ?_
                  refine G.assignI rfl trivial rfl rfl rfl ?_
                  refine G.assignI rfl trivial rfl rfl rfl ?_
                  refine G.nil ?_
                  refine C.seq ?_
                  refine C.region ?_
                  refine G.moveI rfl trivial rfl rfl rfl ?_
                  refine G.moveI rfl trivial rfl rfl rfl ?_
                  refine G.bin rfl trivial rfl rfl rfl rfl rfl ?_
                  refine G.no (t := 230) rfl (by simp) ?_
                  refine G.moveB rfl trivial rfl rfl rfl ?_
                  refine G.moveI rfl ⟨_, rfl, rfl, rfl⟩ rfl rfl rfl ?_
                  refine G.bin rfl ⟨_, rfl, rfl, rfl⟩ rfl rfl rfl rfl rfl ?_
                  refine G.no (t := 233) rfl (by simp) ?_
                  first | refine G.pickT rfl trivial rfl rfl rfl rfl ?_ | refine G.pickF rfl trivial rfl rfl rfl rfl ?_
                  refine G.moveB rfl trivial rfl rfl rfl ?_
                  refine G.moveI rfl ⟨_, rfl, rfl, rfl⟩ rfl rfl rfl ?_
                  refine G.moveI rfl ⟨_, rfl, rfl, rfl⟩ rfl rfl rfl ?_
                  refine G.bin rfl ⟨_, rfl, rfl, rfl⟩ rfl rfl rfl rfl rfl ?_
                  refine G.no (t := 238) rfl (by simp) ?_
                  first | refine G.pickT rfl trivial rfl rfl rfl rfl ?_ | refine G.pickF rfl trivial rfl rfl rfl rfl ?_
                  refine G.moveB rfl trivial rfl rfl rfl ?_
                  refine G.moveI rfl ⟨_, rfl, rfl, rfl⟩ rfl rfl rfl ?_
                  refine G.bin rfl ⟨_, rfl, rfl, rfl⟩ rfl rfl rfl rfl rfl ?_
                  refine G.no (t := 242) rfl (by simp) ?_
                  first | refine G.pickT rfl trivial rfl rfl rfl rfl ?_ | refine G.pickF rfl trivial rfl rfl rfl rfl ?_
                  refine G.nil ?_
                  refine C.condF rfl ?_
                  refine C.skip ?_
                  refine C.region ?_
                  refine G.moveI rfl trivial rfl rfl rfl ?_
                  refine G.add rfl trivial rfl rfl rfl rfl (by omega) ?_
                  refine G.assignI rfl trivial rfl rfl rfl ?_
                  refine G.nil ?_
                  exact ⟨ls.length - (i + 1), by omega, i + 1, pg, sg, u, rr, U, by omega, hsg, hA, rfl, rfl, rfl, rfl, rfl, rfl, rfl, rfl, rfl, rfl⟩
            ·
              refine G.fieldAddr rfl trivial rfl rfl Try.underlying33 rfl I3 rfl rfl ?_
              refine G.loadAt (by first | exact .here | exact .next .here | exact .next (.next .here) | exact .next (.next (.next .here)) | exact .next (.next (.next (.next .here))) | exact .next (.next (.next (.next (.next .here)))) | exact .next (.next (.next (.next (.next (.next .here))))) | exact .next (.next (.next (.next (.next (.next (.next .here)))))) | exact .in1 | exact .next .in1 | exact .next (.next .in1) | exact .next (.next (.next .in1)) | exact .next (.next (.next (.next .in1))) | exact .in2 | exact .next .in2 | exact .next (.next .in2) | exact .next (.next (.next .in2)) | exact .next (.next (.next (.next .in2))) | exact .app .here | exact .app (.next .here) | exact .app (.next (.next .here)) | exact .app (.next (.next (.next .here))) | exact .app (.next (.next (.next (.next .here)))) | exact .app (.next (.next (.next (.next (.next .here))))) | exact .app (.next (.next (.next (.next (.next (.next .here)))))) | exact .app (.next (.next (.next (.next (.next (.next (.next .here))))))) | exact .app .in1 | exact .app .in2 | exact .app (.next .in1) | exact .next (.app .in1) | exact .next (.next (.app .in1)) | exact .next (.app .here) | exact .next (.next (.app .here)) | exact .next (.next (.next (.app .here))) | exact .next (.next (.next (.next (.app .here))))) rfl trivial rfl rfl Try.underlying3 rfl rfl (by rfl) ?_
              refine G.bin rfl trivial rfl rfl rfl rfl rfl ?_
              refine G.moveB rfl trivial rfl rfl rfl ?_
              refine G.no (t := 79) rfl (by omega) ?_
              refine G.fieldAddr rfl ⟨_, rfl, rfl, rfl⟩ rfl rfl Try.underlying33 rfl I3 rfl rfl ?_
              refine G.loadAt (by first | exact .here | exact .next .here | exact .next (.next .here) | exact .next (.next (.next .here)) | exact .next (.next (.next (.next .here))) | exact .next (.next (.next (.next (.next .here)))) | exact .next (.next (.next (.next (.next (.next .here))))) | exact .next (.next (.next (.next (.next (.next (.next .here)))))) | exact .in1 | exact .next .in1 | exact .next (.next .in1) | exact .next (.next (.next .in1)) | exact .next (.next (.next (.next .in1))) | exact .in2 | exact .next .in2 | exact .next (.next .in2) | exact .next (.next (.next .in2)) | exact .next (.next (.next (.next .in2))) | exact .app .here | exact .app (.next .here) | exact .app (.next (.next .here)) | exact .app (.next (.next (.next .here))) | exact .app (.next (.next (.next (.next .here)))) | exact .app (.next (.next (.next (.next (.next .here))))) | exact .app (.next (.next (.next (.next (.next (.next .here)))))) | exact .app (.next (.next (.next (.next (.next (.next (.next .here))))))) | exact .app .in1 | exact .app .in2 | exact .app (.next .in1) | exact .next (.app .in1) | exact .next (.next (.app .in1)) | exact .next (.app .here) | exact .next (.next (.app .here)) | exact .next (.next (.next (.app .here))) | exact .next (.next (.next (.next (.app .here))))) rfl ⟨_, rfl, rfl, rfl⟩ rfl rfl Try.underlying3 rfl rfl (by rfl) ?_
              refine G.bin rfl ⟨_, rfl, rfl, rfl⟩ rfl rfl rfl rfl rfl ?_
              refine G.moveB rfl ⟨_, rfl, rfl, rfl⟩ rfl rfl rfl ?_
              refine G.fork (t := 83) _ rfl ?_ ?_
              · intro hg83
                refine G.fieldAddr rfl ⟨_, rfl, rfl, rfl⟩ rfl rfl Try.underlying33 rfl I3 rfl rfl ?_
                refine G.loadAt (by first | exact .here | exact .next .here | exact .next (.next .here) | exact .next (.next (.next .here)) | exact .next (.next (.next (.next .here))) | exact .next (.next (.next (.next (.next .here)))) | exact .next (.next (.next (.next (.next (.next .here))))) | exact .next (.next (.next (.next (.next (.next (.next .here)))))) | exact .in1 | exact .next .in1 | exact .next (.next .in1) | exact .next (.next (.next .in1)) | exact .next (.next (.next (.next .in1))) | exact .in2 | exact .next .in2 | exact .next (.next .in2) | exact .next (.next (.next .in2)) | exact .next (.next (.next (.next .in2))) | exact .app .here | exact .app (.next .here) | exact .app (.next (.next .here)) | exact .app (.next (.next (.next .here))) | exact .app (.next (.next (.next (.next .here)))) | exact .app (.next (.next (.next (.next (.next .here))))) | exact .app (.next (.next (.next (.next (.next (.next .here)))))) | exact .app (.next (.next (.next (.next (.next (.next (.next .here))))))) | exact .app .in1 | exact .app .in2 | exact .app (.next .in1) | exact .next (.app .in1) | exact .next (.next (.app .in1)) | exact .next (.app .here) | exact .next (.next (.app .here)) | exact .next (.next (.next (.app .here))) | exact .next (.next (.next (.next (.app .here))))) rfl ⟨_, rfl, rfl, rfl⟩ rfl rfl Try.underlying3 rfl rfl (by rfl) ?_
                refine G.bin rfl ⟨_, rfl, rfl, rfl⟩ rfl rfl rfl rfl rfl ?_
                refine G.no (t := 86) rfl (by omega) ?_
                first | refine G.pickT rfl ⟨_, rfl, rfl, rfl⟩ rfl rfl rfl rfl ?_ | refine G.pickF rfl ⟨_, rfl, rfl, rfl⟩ rfl rfl rfl rfl ?_
                first | refine G.pickT rfl trivial rfl rfl rfl rfl ?_ | refine G.pickF rfl trivial rfl rfl rfl rfl ?_
                refine G.assignB rfl trivial rfl rfl rfl ?_
                refine G.nil ?_
                refine C.seq ?_
                refine C.seq ?_
                refine C.region ?_
                refine G.moveP rfl trivial rfl rfl rfl ?_
                refine G.fieldAddr rfl trivial rfl rfl Try.underlying33 rfl I3 rfl rfl ?_
                refine G.loadAt (by first | exact .here | exact .next .here | exact .next (.next .here) | exact .next (.next (.next .here)) | exact .next (.next (.next (.next .here))) | exact .next (.next (.next (.next (.next .here)))) | exact .next (.next (.next (.next (.next (.next .here))))) | exact .next (.next (.next (.next (.next (.next (.next .here)))))) | exact .in1 | exact .next .in1 | exact .next (.next .in1) | exact .next (.next (.next .in1)) | exact .next (.next (.next (.next .in1))) | exact .in2 | exact .next .in2 | exact .next (.next .in2) | exact .next (.next (.next .in2)) | exact .next (.next (.next (.next .in2))) | exact .app .here | exact .app (.next .here) | exact .app (.next (.next .here)) | exact .app (.next (.next (.next .here))) | exact .app (.next (.next (.next (.next .here)))) | exact .app (.next (.next (.next (.next (.next .here))))) | exact .app (.next (.next (.next (.next (.next (.next .here)))))) | exact .app (.next (.next (.next (.next (.next (.next (.next .here))))))) | exact .app .in1 | exact .app .in2 | exact .app (.next .in1) | exact .next (.app .in1) | exact .next (.next (.app .in1)) | exact .next (.app .here) | exact .next (.next (.app .here)) | exact .next (.next (.next (.app .here))) | exact .next (.next (.next (.next (.app .here))))) rfl trivial rfl rfl Try.underlying3 rfl rfl (by rfl) ?_
                refine G.call E14 rfl rfl trivial rfl rfl (setroot_bad W0 _ _ no hgood) rfl ?_
                rintro e L2 ⟨rfl, rfl⟩
                refine G.bin rfl trivial rfl rfl rfl rfl rfl ?_
                refine G.no (t := 93) rfl (by decide) ?_
                refine G.moveB rfl trivial rfl rfl rfl ?_
                refine G.boolNe rfl trivial rfl rfl Try.underlying4 rfl rfl ?_
                refine G.nil ?_
                refine C.condF rfl ?_
                refine C.skip ?_
                refine C.seq ?_
                refine C.region ?_
                refine G.moveB rfl trivial rfl rfl rfl ?_
                refine G.nil ?_
                refine C.condF rfl ?_
                refine C.skip ?_
                refine C.seq ?_
                refine C.region ?_
                obtain ⟨rr, hrr⟩ : ∃ rr : Nat, rr = r := ⟨_, rfl⟩
                rw [← hrr] at hA
                refine G.fix (d := 11) (v := .int .i64 (rr : Int)) (by show Value.int .i64 (r : Int) = _; rw [hrr]) ?_
                refine G.assignI rfl trivial rfl rfl rfl ?_
                refine G.less (fun _ h => h.tail) ?_
                refine G.nil ?_
                refine C.seq ?_
                refine C.seq ?_
                refine C.region ?_
                refine G.assignI rfl trivial rfl rfl rfl ?_
                refine G.nil ?_
                refine C.block ?_
                refine C.loop (fun m F D' L' => ∃ kk : Nat, kk ≤ 35 ∧ m = 35 - kk ∧ F 24 = .int .i64 ((kk : Int) - 1) ∧ F 23 = .int .i64 (countU (pg 1) (kk - 1) : Nat) ∧ F 12 = .int .i64 i ∧ F 11 = .int .i64 (rr : Int) ∧ F 10 = ptr b10 ∧ F 9 = ptr bs ∧ F 7 = .slice (some ⟨b39, 0, none⟩) 256 256 ∧ F 0 = .int .u8 (b.toNat : Int) ∧ F 1 = .slice (some ⟨p1, o1, none⟩) ls.length c1 ∧ D' = [] ∧ [(b10, .row (U.map Value.bool) 31 32)] :: sg :: [] = L') ⟨_, ⟨0, by omega, rfl, rfl, rfl, rfl, rfl, rfl, rfl, rfl, rfl, rfl, rfl, rfl⟩⟩ ?_
                rintro m F D' L' ⟨kk, hkk, rfl, h24, h23, h12, h11, h10, h9, h7, h0', h1', rfl, rfl⟩
                refine C.fix (d := 24) h24 ?_
                refine C.fix (d := 23) h23 ?_
                refine C.fix (d := 12) h12 ?_
                refine C.fix (d := 11) h11 ?_
                refine C.fix (d := 10) h10 ?_
                refine C.fix (d := 9) h9 ?_
                refine C.fix (d := 7) h7 ?_
                refine C.fix (d := 0) h0' ?_
                refine C.fix (d := 1) h1' ?_
                refine C.seq ?_
                refine C.seq ?_
                refine C.region ?_
                refine G.moveI rfl trivial rfl rfl rfl ?_
                refine G.bin rfl trivial rfl rfl rfl rfl rfl ?_
                refine G.nil ?_
                refine C.cond _ rfl ?_ ?_
                · intro hc14
                  have hcs := cnt_step (pg 1) kk
                  have hcl := countU_le (pg 1) (kk - 1)
                  refine C.skip ?_
                  refine C.seq ?_
                  refine C.block ?_
                  refine C.seq ?_
                  refine C.region ?_
                  refine G.moveI rfl trivial rfl rfl rfl ?_
                  refine G.bin rfl trivial rfl rfl rfl rfl rfl ?_
                  refine G.moveB rfl trivial rfl rfl rfl ?_
                  refine G.fork (t := 190) _ rfl ?_ ?_
                  · intro hg190
                    refine G.moveI rfl ⟨_, rfl, rfl, rfl⟩ rfl rfl rfl ?_
                    refine G.bin rfl ⟨_, rfl, rfl, rfl⟩ rfl rfl rfl rfl rfl ?_
                    first | refine G.pickT rfl trivial rfl rfl rfl rfl ?_ | refine G.pickF rfl trivial rfl rfl rfl rfl ?_
                    refine G.moveB rfl trivial rfl rfl rfl ?_
                    refine G.fork (t := 194) _ rfl ?_ ?_
                    · intro hg194
                      refine G.moveI rfl ⟨_, rfl, rfl, rfl⟩ rfl rfl rfl ?_
                      obtain ⟨ux, hux, hhas⟩ := hA.has (k := (kk : Int) - 1) (by omega)
                      refine G.indexAddrArr rfl ⟨_, rfl, rfl, rfl⟩ rfl rfl Try.underlying31 I4 rfl rfl (by omega) ?_
                      refine G.loadAt (v := .bool ux) .here rfl ⟨_, rfl, rfl, rfl⟩ rfl rfl Try.underlying4 rfl rfl (by rw [show 0 + ((kk : Int) - 1).toNat * 1 = ((kk : Int) - 1).toNat by omega]; exact boolsV_at hux) ?_
                      first | refine G.pickT rfl trivial rfl rfl rfl rfl ?_ | refine G.pickF rfl trivial rfl rfl rfl rfl ?_
                      refine G.assignB rfl trivial rfl rfl rfl ?_
                      refine G.nil ?_
                      refine C.seq ?_
                      refine C.region ?_
                      refine G.moveP rfl trivial rfl rfl rfl ?_
                      refine G.makeInterface rfl trivial rfl rfl Try.underlying29 rfl ?_
                      refine G.moveI rfl trivial rfl rfl rfl ?_
                      refine G.call E15 rfl rfl trivial rfl rfl (used_spec W0 _ _ _ _ hA.us.len (aread_sheet W0 [_] [] bs pg sg hsg) ((kk : Int) - 1)) rfl ?_
                      rintro e L2 ⟨rfl, rfl⟩
                      rw [hhas] at hcs ⊢
                      refine G.moveU rfl trivial rfl rfl rfl ?_
                      refine G.extractL rfl trivial rfl rfl rfl rfl ?_
                      refine G.extractL rfl trivial rfl rfl rfl rfl ?_
                      refine G.assignB rfl trivial rfl rfl rfl ?_
                      refine G.assignI rfl trivial rfl rfl rfl ?_
                      refine G.nil ?_
                      refine C.seq ?_
                      refine C.seq ?_
                      refine C.region ?_
                      refine G.moveB rfl trivial rfl rfl rfl ?_
                      refine G.moveB rfl trivial rfl rfl rfl ?_
                      refine G.boolNe rfl trivial rfl rfl Try.underlying4 rfl rfl ?_
                      refine G.fix (d := 208) (v := .bool false) (by show Value.bool (ux != ux) = _; cases ux <;> rfl) ?_
                      refine G.moveB rfl trivial rfl rfl rfl ?_
                      refine G.moveI rfl ⟨_, rfl, rfl, rfl⟩ rfl rfl rfl ?_
                      refine G.bin rfl ⟨_, rfl, rfl, rfl⟩ rfl rfl rfl rfl rfl ?_
                      refine G.no (t := 211) rfl (by simp) ?_
                      first | refine G.pickT rfl trivial rfl rfl rfl rfl ?_ | refine G.pickF rfl trivial rfl rfl rfl rfl ?_
                      refine G.nil ?_
                      refine C.condF rfl ?_
                      refine C.skip ?_
                      refine C.seq ?_
                      refine C.region ?_
                      refine G.moveB rfl trivial rfl rfl rfl ?_
                      refine G.nil ?_
                      refine C.condB _ rfl ?_ ?_
                      · intro hc16
                        refine C.region ?_
                        refine G.moveI rfl trivial rfl rfl rfl ?_
                        refine G.add rfl trivial rfl rfl rfl rfl (by omega) ?_
                        refine G.assignI rfl trivial rfl rfl rfl ?_
                        refine G.nil ?_
                        refine C.region ?_
                        refine G.moveI rfl trivial rfl rfl rfl ?_
                        refine G.add rfl trivial rfl rfl rfl rfl (by omega) ?_
                        refine G.assignI rfl trivial rfl rfl rfl ?_
                        refine G.nil ?_
                        exact ⟨35 - (kk + 1), by omega, kk + 1, by omega, rfl, (by show Value.int .i64 _ = _; congr 1; omega), (by show Value.int .i64 (((countU (pg 1) (kk - 1) : Nat) : Int) + 1) = Value.int .i64 ((countU (pg 1) (kk + 1 - 1) : Nat) : Int); rw [hcs, hc16]; rfl), rfl, rfl, rfl, rfl, rfl, rfl, rfl, rfl, rfl⟩
                      · intro hc16
                        refine C.skip ?_
                        refine C.region ?_
                        refine G.moveI rfl trivial rfl rfl rfl ?_
                        refine G.add rfl trivial rfl rfl rfl rfl (by omega) ?_
                        refine G.assignI rfl trivial rfl rfl rfl ?_
                        refine G.nil ?_
                        exact ⟨35 - (kk + 1), by omega, kk + 1, by omega, rfl, (by show Value.int .i64 _ = _; congr 1; omega), (by show Value.int .i64 ((countU (pg 1) (kk - 1) : Nat) : Int) = Value.int .i64 ((countU (pg 1) (kk + 1 - 1) : Nat) : Int); rw [hcs, hc16]; rfl), rfl, rfl, rfl, rfl, rfl, rfl, rfl, rfl, rfl⟩
                    · intro hg194
                      refine G.skip rfl rfl rfl rfl rfl rfl ?_
                      refine G.skip rfl rfl rfl rfl rfl rfl ?_
                      refine G.skip rfl rfl rfl rfl rfl rfl ?_
                      first | refine G.pickT rfl trivial rfl rfl rfl rfl ?_ | refine G.pickF rfl trivial rfl rfl rfl rfl ?_
                      refine G.assignB rfl trivial rfl rfl rfl ?_
                      refine G.nil ?_
                      refine C.seq ?_
                      refine C.region ?_
                      refine G.moveP rfl trivial rfl rfl rfl ?_
                      refine G.makeInterface rfl trivial rfl rfl Try.underlying29 rfl ?_
                      refine G.moveI rfl trivial rfl rfl rfl ?_
                      refine G.call E15 rfl rfl trivial rfl rfl (used_spec W0 _ _ _ _ hA.us.len (aread_sheet W0 [_] [] bs pg sg hsg) ((kk : Int) - 1)) rfl ?_
                      rintro e L2 ⟨rfl, rfl⟩
                      have hhas := has_out (pg 1) (k := (kk : Int) - 1) (by omega)
                      rw [hhas] at hcs ⊢
                      refine G.moveU rfl trivial rfl rfl rfl ?_
                      refine G.extractL rfl trivial rfl rfl rfl rfl ?_
                      refine G.extractL rfl trivial rfl rfl rfl rfl ?_
                      refine G.assignB rfl trivial rfl rfl rfl ?_
                      refine G.assignI rfl trivial rfl rfl rfl ?_
                      refine G.nil ?_
                      refine C.seq ?_
                      refine C.seq ?_
                      refine C.region ?_
                      refine G.moveB rfl trivial rfl rfl rfl ?_
                      refine G.moveB rfl trivial rfl rfl rfl ?_
                      refine G.boolNe rfl trivial rfl rfl Try.underlying4 rfl rfl ?_
                      refine G.fix (d := 208) (v := .bool false) (rfl) ?_
                      refine G.moveB rfl trivial rfl rfl rfl ?_
                      refine G.moveI rfl ⟨_, rfl, rfl, rfl⟩ rfl rfl rfl ?_
                      refine G.bin rfl ⟨_, rfl, rfl, rfl⟩ rfl rfl rfl rfl rfl ?_
                      refine G.no (t := 211) rfl (by simp) ?_
                      first | refine G.pickT rfl trivial rfl rfl rfl rfl ?_ | refine G.pickF rfl trivial rfl rfl rfl rfl ?_
                      refine G.nil ?_
                      refine C.condF rfl ?_
                      refine C.skip ?_
                      refine C.seq ?_
                      refine C.region ?_
                      refine G.moveB rfl trivial rfl rfl rfl ?_
                      refine G.nil ?_
                      refine C.condF rfl ?_
                      refine C.skip ?_
                      refine C.region ?_
                      refine G.moveI rfl trivial rfl rfl rfl ?_
                      refine G.add rfl trivial rfl rfl rfl rfl (by omega) ?_
                      refine G.assignI rfl trivial rfl rfl rfl ?_
                      refine G.nil ?_
                      exact ⟨35 - (kk + 1), by omega, kk + 1, by omega, rfl, (by show Value.int .i64 _ = _; congr 1; omega), (by show Value.int .i64 ((countU (pg 1) (kk - 1) : Nat) : Int) = Value.int .i64 ((countU (pg 1) (kk + 1 - 1) : Nat) : Int); rw [hcs]; rfl), rfl, rfl, rfl, rfl, rfl, rfl, rfl, rfl, rfl⟩
                  · intro hg190
                    refine G.skip rfl rfl rfl rfl rfl rfl ?_
                    refine G.skip rfl rfl rfl rfl rfl rfl ?_
                    first | refine G.pickT rfl trivial rfl rfl rfl rfl ?_ | refine G.pickF rfl trivial rfl rfl rfl rfl ?_
                    refine G.moveB rfl trivial rfl rfl rfl ?_
                    refine G.skip rfl rfl rfl rfl rfl rfl ?_
                    refine G.skip rfl rfl rfl rfl rfl rfl ?_
                    refine G.skip rfl rfl rfl rfl rfl rfl ?_
                    first | refine G.pickT rfl trivial rfl rfl rfl rfl ?_ | refine G.pickF rfl trivial rfl rfl rfl rfl ?_
                    refine G.assignB rfl trivial rfl rfl rfl ?_
                    refine G.nil ?_
                    refine C.seq ?_
                    refine C.region ?_
                    refine G.moveP rfl trivial rfl rfl rfl ?_
                    refine G.makeInterface rfl trivial rfl rfl Try.underlying29 rfl ?_
                    refine G.moveI rfl trivial rfl rfl rfl ?_
                    refine G.call E15 rfl rfl trivial rfl rfl (used_spec W0 _ _ _ _ hA.us.len (aread_sheet W0 [_] [] bs pg sg hsg) ((kk : Int) - 1)) rfl ?_
                    rintro e L2 ⟨rfl, rfl⟩
                    have hhas := has_out (pg 1) (k := (kk : Int) - 1) (by omega)
                    rw [hhas] at hcs ⊢
                    refine G.moveU rfl trivial rfl rfl rfl ?_
                    refine G.extractL rfl trivial rfl rfl rfl rfl ?_
                    refine G.extractL rfl trivial rfl rfl rfl rfl ?_
                    refine G.assignB rfl trivial rfl rfl rfl ?_
                    refine G.assignI rfl trivial rfl rfl rfl ?_
                    refine G.nil ?_
                    refine C.seq ?_
                    refine C.seq ?_
                    refine C.region ?_
                    refine G.moveB rfl trivial rfl rfl rfl ?_
                    refine G.moveB rfl trivial rfl rfl rfl ?_
                    refine G.boolNe rfl trivial rfl rfl Try.underlying4 rfl rfl ?_
                    refine G.fix (d := 208) (v := .bool false) (rfl) ?_
                    refine G.moveB rfl trivial rfl rfl rfl ?_
                    refine G.moveI rfl ⟨_, rfl, rfl, rfl⟩ rfl rfl rfl ?_
                    refine G.bin rfl ⟨_, rfl, rfl, rfl⟩ rfl rfl rfl rfl rfl ?_
                    refine G.no (t := 211) rfl (by simp) ?_
                    first | refine G.pickT rfl trivial rfl rfl rfl rfl ?_ | refine G.pickF rfl trivial rfl rfl rfl rfl ?_
                    refine G.nil ?_
                    refine C.condF rfl ?_
                    refine C.skip ?_
                    refine C.seq ?_
                    refine C.region ?_
                    refine G.moveB rfl trivial rfl rfl rfl ?_
                    refine G.nil ?_
                    refine C.condF rfl ?_
                    refine C.skip ?_
                    refine C.region ?_
                    refine G.moveI rfl trivial rfl rfl rfl ?_
                    refine G.add rfl trivial rfl rfl rfl rfl (by omega) ?_
                    refine G.assignI rfl trivial rfl rfl rfl ?_
                    refine G.nil ?_
                    exact ⟨35 - (kk + 1), by omega, kk + 1, by omega, rfl, (by show Value.int .i64 _ = _; congr 1; omega), (by show Value.int .i64 ((countU (pg 1) (kk - 1) : Nat) : Int) = Value.int .i64 ((countU (pg 1) (kk + 1 - 1) : Nat) : Int); rw [hcs]; rfl), rfl, rfl, rfl, rfl, rfl, rfl, rfl, rfl, rfl⟩
                · intro hc14
                  obtain rfl : kk = 35 := by omega
                  refine C.exit ?_
                  refine C.seq ?_
                  refine C.region ?_
                  refine G.moveP rfl trivial rfl rfl rfl ?_
                  refine G.makeInterface rfl trivial rfl rfl Try.underlying29 rfl ?_
                  refine G.call E16 rfl rfl trivial rfl rfl (count_spec W0 _ _ _ _ hA.us.len (aread_sheet W0 [_] [] bs pg sg hsg)) rfl ?_
                  rintro e L2 ⟨rfl, rfl⟩
                  rw [← countU_end]
                  refine G.moveU rfl trivial rfl rfl rfl ?_
                  refine G.extractL rfl trivial rfl rfl rfl rfl ?_
                  refine G.extractL rfl trivial rfl rfl rfl rfl ?_
                  refine G.assignI rfl trivial rfl rfl rfl ?_
                  refine G.assignI rfl trivial rfl rfl rfl ?_
                  refine G.nil ?_
                  refine C.seq ?_
                  refine C.region ?_
                  refine G.moveP rfl trivial rfl rfl rfl ?_
                  refine G.makeInterface rfl trivial rfl rfl Try.underlying29 rfl ?_
                  refine G.call E17 rfl rfl trivial rfl rfl (root_spec W0 _ _ _ _ hA.us.len (aread_sheet W0 [_] [] bs pg sg hsg)) rfl ?_
                  rintro e L2 ⟨rfl, rfl⟩
                  rw [hA.us.root, if_pos hA.root]
                  refine G.moveU rfl trivial rfl rfl rfl ?_
                  refine G.extractL rfl trivial rfl rfl rfl rfl ?_
                  refine G.extractL rfl trivial rfl rfl rfl rfl ?_
                  refine G.assignI rfl trivial rfl rfl rfl ?_
                  refine G.assignI rfl trivial rfl rfl rfl ?_
                  refine G.nil ?_
                  refine C.seq ?_
                  refine C.region ?_
                  refine G.moveI rfl trivial rfl rfl rfl ?_
                  refine G.moveI rfl trivial rfl rfl rfl ?_
                  refine G.bin rfl trivial rfl rfl rfl rfl rfl ?_
                  refine G.no (t := 230) rfl (by simp) ?_
                  refine G.moveB rfl trivial rfl rfl rfl ?_
                  refine G.moveI rfl ⟨_, rfl, rfl, rfl⟩ rfl rfl rfl ?_
                  refine G.bin rfl ⟨_, rfl, rfl, rfl⟩ rfl rfl rfl rfl rfl ?_
                  refine G.no (t := 233) rfl (by simp) ?_
                  first | refine G.pickT rfl trivial rfl rfl rfl rfl ?_ | refine G.pickF rfl trivial rfl rfl rfl rfl ?_
                  refine G.moveB rfl trivial rfl rfl rfl ?_
                  refine G.moveI rfl ⟨_, rfl, rfl, rfl⟩ rfl rfl rfl ?_
                  refine G.moveI rfl ⟨_, rfl, rfl, rfl⟩ rfl rfl rfl ?_
                  refine G.bin rfl ⟨_, rfl, rfl, rfl⟩ rfl rfl rfl rfl rfl ?_
                  refine G.no (t := 238) rfl (by simp) ?_
                  first | refine G.pickT rfl trivial rfl rfl rfl rfl ?_ | refine G.pickF rfl trivial rfl rfl rfl rfl ?_
                  refine G.moveB rfl trivial rfl rfl rfl ?_
                  refine G.moveI rfl ⟨_, rfl, rfl, rfl⟩ rfl rfl rfl ?_
                  refine G.bin rfl ⟨_, rfl, rfl, rfl⟩ rfl rfl rfl rfl rfl ?_
                  refine G.no (t := 242) rfl (by simp) ?_
                  first | refine G.pickT rfl trivial rfl rfl rfl rfl ?_ | refine G.pickF rfl trivial rfl rfl rfl rfl ?_
                  refine G.nil ?_
                  refine C.condF rfl ?_
                  refine C.skip ?_
                  refine C.region ?_
                  refine G.moveI rfl trivial rfl rfl rfl ?_
                  refine G.add rfl trivial rfl rfl rfl rfl (by omega) ?_
                  refine G.assignI rfl trivial rfl rfl rfl ?_
                  refine G.nil ?_
                  exact ⟨ls.length - (i + 1), by omega, i + 1, pg, sg, u, rr, U, by omega, hsg, hA, rfl, rfl, rfl, rfl, rfl, rfl, rfl, rfl, rfl, rfl⟩
              · intro hg83
                refine G.skip rfl rfl rfl rfl rfl rfl ?_
                refine G.skip rfl rfl rfl rfl rfl rfl ?_
                refine G.skip rfl rfl rfl rfl rfl rfl ?_
                first | refine G.pickT rfl ⟨_, rfl, rfl, rfl⟩ rfl rfl rfl rfl ?_ | refine G.pickF rfl ⟨_, rfl, rfl, rfl⟩ rfl rfl rfl rfl ?_
                first | refine G.pickT rfl trivial rfl rfl rfl rfl ?_ | refine G.pickF rfl trivial rfl rfl rfl rfl ?_
                refine G.assignB rfl trivial rfl rfl rfl ?_
                refine G.nil ?_
                refine C.seq ?_
                refine C.seq ?_
                refine C.region ?_
                refine G.moveP rfl trivial rfl rfl rfl ?_
                refine G.fieldAddr rfl trivial rfl rfl Try.underlying33 rfl I3 rfl rfl ?_
                refine G.loadAt (by first | exact .here | exact .next .here | exact .next (.next .here) | exact .next (.next (.next .here)) | exact .next (.next (.next (.next .here))) | exact .next (.next (.next (.next (.next .here)))) | exact .next (.next (.next (.next (.next (.next .here))))) | exact .next (.next (.next (.next (.next (.next (.next .here)))))) | exact .in1 | exact .next .in1 | exact .next (.next .in1) | exact .next (.next (.next .in1)) | exact .next (.next (.next (.next .in1))) | exact .in2 | exact .next .in2 | exact .next (.next .in2) | exact .next (.next (.next .in2)) | exact .next (.next (.next (.next .in2))) | exact .app .here | exact .app (.next .here) | exact .app (.next (.next .here)) | exact .app (.next (.next (.next .here))) | exact .app (.next (.next (.next (.next .here)))) | exact .app (.next (.next (.next (.next (.next .here))))) | exact .app (.next (.next (.next (.next (.next (.next .here)))))) | exact .app (.next (.next (.next (.next (.next (.next (.next .here))))))) | exact .app .in1 | exact .app .in2 | exact .app (.next .in1) | exact .next (.app .in1) | exact .next (.next (.app .in1)) | exact .next (.app .here) | exact .next (.next (.app .here)) | exact .next (.next (.next (.app .here))) | exact .next (.next (.next (.next (.app .here))))) rfl trivial rfl rfl Try.underlying3 rfl rfl (by rfl) ?_
                refine G.call E14 rfl rfl trivial rfl rfl (setroot_bad W0 _ _ no hgood) rfl ?_
                rintro e L2 ⟨rfl, rfl⟩
                refine G.bin rfl trivial rfl rfl rfl rfl rfl ?_
                refine G.no (t := 93) rfl (by decide) ?_
                refine G.moveB rfl trivial rfl rfl rfl ?_
                refine G.boolNe rfl trivial rfl rfl Try.underlying4 rfl rfl ?_
                refine G.nil ?_
                refine C.condF rfl ?_
                refine C.skip ?_
                refine C.seq ?_
                refine C.region ?_
                refine G.moveB rfl trivial rfl rfl rfl ?_
                refine G.nil ?_
                refine C.condF rfl ?_
                refine C.skip ?_
                refine C.seq ?_
                refine C.region ?_
                obtain ⟨rr, hrr⟩ : ∃ rr : Nat, rr = r := ⟨_, rfl⟩
                rw [← hrr] at hA
                refine G.fix (d := 11) (v := .int .i64 (rr : Int)) (by show Value.int .i64 (r : Int) = _; rw [hrr]) ?_
                refine G.assignI rfl trivial rfl rfl rfl ?_
                refine G.less (fun _ h => h.tail) ?_
                refine G.nil ?_
                refine C.seq ?_
                refine C.seq ?_
                refine C.region ?_
                refine G.assignI rfl trivial rfl rfl rfl ?_
                refine G.nil ?_
                refine C.block ?_
                refine C.loop (fun m F D' L' => ∃ kk : Nat, kk ≤ 35 ∧ m = 35 - kk ∧ F 24 = .int .i64 ((kk : Int) - 1) ∧ F 23 = .int .i64 (countU (pg 1) (kk - 1) : Nat) ∧ F 12 = .int .i64 i ∧ F 11 = .int .i64 (rr : Int) ∧ F 10 = ptr b10 ∧ F 9 = ptr bs ∧ F 7 = .slice (some ⟨b39, 0, none⟩) 256 256 ∧ F 0 = .int .u8 (b.toNat : Int) ∧ F 1 = .slice (some ⟨p1, o1, none⟩) ls.length c1 ∧ D' = [] ∧ [(b10, .row (U.map Value.bool) 31 32)] :: sg :: [] = L') ⟨_, ⟨0, by omega, rfl, rfl, rfl, rfl, rfl, rfl, rfl, rfl, rfl, rfl, rfl, rfl⟩⟩ ?_
                rintro m F D' L' ⟨kk, hkk, rfl, h24, h23, h12, h11, h10, h9, h7, h0', h1', rfl, rfl⟩
                refine C.fix (d := 24) h24 ?_
                refine C.fix (d := 23) h23 ?_
                refine C.fix (d := 12) h12 ?_
                refine C.fix (d := 11) h11 ?_
                refine C.fix (d := 10) h10 ?_
                refine C.fix (d := 9) h9 ?_
                refine C.fix (d := 7) h7 ?_
                refine C.fix (d := 0) h0' ?_
                refine C.fix (d := 1) h1' ?_
                refine C.seq ?_
                refine C.seq ?_
                refine C.region ?_
                refine G.moveI rfl trivial rfl rfl rfl ?_
                refine G.bin rfl trivial rfl rfl rfl rfl rfl ?_
                refine G.nil ?_
                refine C.cond _ rfl ?_ ?_
                · intro hc14
                  have hcs := cnt_step (pg 1) kk
                  have hcl := countU_le (pg 1) (kk - 1)
                  refine C.skip ?_
                  refine C.seq ?_
                  refine C.block ?_
                  refine C.seq ?_
                  refine C.region ?_
                  refine G.moveI rfl trivial rfl rfl rfl ?_
                  refine G.bin rfl trivial rfl rfl rfl rfl rfl ?_
                  refine G.moveB rfl trivial rfl rfl rfl ?_
                  refine G.fork (t := 190) _ rfl ?_ ?_
                  · intro hg190
                    refine G.moveI rfl ⟨_, rfl, rfl, rfl⟩ rfl rfl rfl ?_
                    refine G.bin rfl ⟨_, rfl, rfl, rfl⟩ rfl rfl rfl rfl rfl ?_
                    first | refine G.pickT rfl trivial rfl rfl rfl rfl ?_ | refine G.pickF rfl trivial rfl rfl rfl rfl ?_
                    refine G.moveB rfl trivial rfl rfl rfl ?_
                    refine G.fork (t := 194) _ rfl ?_ ?_
                    · intro hg194
                      refine G.moveI rfl ⟨_, rfl, rfl, rfl⟩ rfl rfl rfl ?_
                      obtain ⟨ux, hux, hhas⟩ := hA.has (k := (kk : Int) - 1) (by omega)
                      refine G.indexAddrArr rfl ⟨_, rfl, rfl, rfl⟩ rfl rfl Try.underlying31 I4 rfl rfl (by omega) ?_
                      refine G.loadAt (v := .bool ux) .here rfl ⟨_, rfl, rfl, rfl⟩ rfl rfl Try.underlying4 rfl rfl (by rw [show 0 + ((kk : Int) - 1).toNat * 1 = ((kk : Int) - 1).toNat by omega]; exact boolsV_at hux) ?_
                      first | refine G.pickT rfl trivial rfl rfl rfl rfl ?_ | refine G.pickF rfl trivial rfl rfl rfl rfl ?_
                      refine G.assignB rfl trivial rfl rfl rfl ?_
                      refine G.nil ?_
                      refine C.seq ?_
                      refine C.region ?_
                      refine G.moveP rfl trivial rfl rfl rfl ?_
                      refine G.makeInterface rfl trivial rfl rfl Try.underlying29 rfl ?_
                      refine G.moveI rfl trivial rfl rfl rfl ?_
                      refine G.call E15 rfl rfl trivial rfl rfl (used_spec W0 _ _ _ _ hA.us.len (aread_sheet W0 [_] [] bs pg sg hsg) ((kk : Int) - 1)) rfl ?_
                      rintro e L2 ⟨rfl, rfl⟩
                      rw [hhas] at hcs ⊢
                      refine G.moveU rfl trivial rfl rfl rfl ?_
                      refine G.extractL rfl trivial rfl rfl rfl rfl ?_
                      refine G.extractL rfl trivial rfl rfl rfl rfl ?_
                      refine G.assignB rfl trivial rfl rfl rfl ?_
                      refine G.assignI rfl trivial rfl rfl rfl ?_
                      refine G.nil ?_
                      refine C.seq ?_
                      refine C.seq ?_
                      refine C.region ?_
                      refine G.moveB rfl trivial rfl rfl rfl ?_
                      refine G.moveB rfl trivial rfl rfl rfl ?_
                      refine G.boolNe rfl trivial rfl rfl Try.underlying4 rfl rfl ?_
                      refine G.fix (d := 208) (v := .bool false) (by show Value.bool (ux != ux) = _; cases ux <;> rfl) ?_
                      refine G.moveB rfl trivial rfl rfl rfl ?_
                      refine G.moveI rfl ⟨_, rfl, rfl, rfl⟩ rfl rfl rfl ?_
                      refine G.bin rfl ⟨_, rfl, rfl, rfl⟩ rfl rfl rfl rfl rfl ?_
                      refine G.no (t := 211) rfl (by simp) ?_
                      first | refine G.pickT rfl trivial rfl rfl rfl rfl ?_ | refine G.pickF rfl trivial rfl rfl rfl rfl ?_
                      refine G.nil ?_
                      refine C.condF rfl ?_
                      refine C.skip ?_
                      refine C.seq ?_
                      refine C.region ?_
                      refine G.moveB rfl trivial rfl rfl rfl ?_
                      refine G.nil ?_
                      refine C.condB _ rfl ?_ ?_
                      · intro hc16
                        refine C.region ?_
                        refine G.moveI rfl trivial rfl rfl rfl ?_
                        refine G.add rfl trivial rfl rfl rfl rfl (by omega) ?_
                        refine G.assignI rfl trivial rfl rfl rfl ?_
                        refine G.nil ?_
                        refine C.region ?_
                        refine G.moveI rfl trivial rfl rfl rfl ?_
                        refine G.add rfl trivial rfl rfl rfl rfl (by omega) ?_
                        refine G.assignI rfl trivial rfl rfl rfl ?_
                        refine G.nil ?_
                        exact ⟨35 - (kk + 1), by omega, kk + 1, by omega, rfl, (by show Value.int .i64 _ = _; congr 1; omega), (by show Value.int .i64 (((countU (pg 1) (kk - 1) : Nat) : Int) + 1) = Value.int .i64 ((countU (pg 1) (kk + 1 - 1) : Nat) : Int); rw [hcs, hc16]; rfl), rfl, rfl, rfl, rfl, rfl, rfl, rfl, rfl, rfl⟩
                      · intro hc16
                        refine C.skip ?_
                        refine C.region ?_
                        refine G.moveI rfl trivial rfl rfl rfl ?_
                        refine G.add rfl trivial rfl rfl rfl rfl (by omega) ?_
                        refine G.assignI rfl trivial rfl rfl rfl ?_
                        refine G.nil ?_
                        exact ⟨35 - (kk + 1), by omega, kk + 1, by omega, rfl, (by show Value.int .i64 _ = _; congr 1; omega), (by show Value.int .i64 ((countU (pg 1) (kk - 1) : Nat) : Int) = Value.int .i64 ((countU (pg 1) (kk + 1 - 1) : Nat) : Int); rw [hcs, hc16]; rfl), rfl, rfl, rfl, rfl, rfl, rfl, rfl, rfl, rfl⟩
                    · intro hg194
                      refine G.skip rfl rfl rfl rfl rfl rfl ?_
                      refine G.skip rfl rfl rfl rfl rfl rfl ?_
                      refine G.skip rfl rfl rfl rfl rfl rfl ?_
                      first | refine G.pickT rfl trivial rfl rfl rfl rfl ?_ | refine G.pickF rfl trivial rfl rfl rfl rfl ?_
                      refine G.assignB rfl trivial rfl rfl rfl ?_
                      refine G.nil ?_
                      refine C.seq ?_
                      refine C.region ?_
                      refine G.moveP rfl trivial rfl rfl rfl ?_
                      refine G.makeInterface rfl trivial rfl rfl Try.underlying29 rfl ?_
                      refine G.moveI rfl trivial rfl rfl rfl ?_
                      refine G.call E15 rfl rfl trivial rfl rfl (used_spec W0 _ _ _ _ hA.us.len (aread_sheet W0 [_] [] bs pg sg hsg) ((kk : Int) - 1)) rfl ?_
                      rintro e L2 ⟨rfl, rfl⟩
                      have hhas := has_out (pg 1) (k := (kk : Int) - 1) (by omega)
                      rw [hhas] at hcs ⊢
                      refine G.moveU rfl trivial rfl rfl rfl ?_
                      refine G.extractL rfl trivial rfl rfl rfl rfl ?_
                      refine G.extractL rfl trivial rfl rfl rfl rfl ?_
                      refine G.assignB rfl trivial rfl rfl rfl ?_
                      refine G.assignI rfl trivial rfl rfl rfl ?_
                      refine G.nil ?_
                      refine C.seq ?_
                      refine C.seq ?_
                      refine C.region ?_
                      refine G.moveB rfl trivial rfl rfl rfl ?_
                      refine G.moveB rfl trivial rfl rfl rfl ?_
                      refine G.boolNe rfl trivial rfl rfl Try.underlying4 rfl rfl ?_
                      refine G.fix (d := 208) (v := .bool false) (rfl) ?_
                      refine G.moveB rfl trivial rfl rfl rfl ?_
                      refine G.moveI rfl ⟨_, rfl, rfl, rfl⟩ rfl rfl rfl ?_
                      refine G.bin rfl ⟨_, rfl, rfl, rfl⟩ rfl rfl rfl rfl rfl ?_
                      refine G.no (t := 211) rfl (by simp) ?_
                      first | refine G.pickT rfl trivial rfl rfl rfl rfl ?_ | refine G.pickF rfl trivial rfl rfl rfl rfl ?_
                      refine G.nil ?_
                      refine C.condF rfl ?_
                      refine C.skip ?_
                      refine C.seq ?_
                      refine C.region ?_
                      refine G.moveB rfl trivial rfl rfl rfl ?_
                      refine G.nil ?_
                      refine C.condF rfl ?_
                      refine C.skip ?_
                      refine C.region ?_
                      refine G.moveI rfl trivial rfl rfl rfl ?_
                      refine G.add rfl trivial rfl rfl rfl rfl (by omega) ?_
                      refine G.assignI rfl trivial rfl rfl rfl ?_
                      refine G.nil ?_
                      exact ⟨35 - (kk + 1), by omega, kk + 1, by omega, rfl, (by show Value.int .i64 _ = _; congr 1; omega), (by show Value.int .i64 ((countU (pg 1) (kk - 1) : Nat) : Int) = Value.int .i64 ((countU (pg 1) (kk + 1 - 1) : Nat) : Int); rw [hcs]; rfl), rfl, rfl, rfl, rfl, rfl, rfl, rfl, rfl, rfl⟩
                  · intro hg190
                    refine G.skip rfl rfl rfl rfl rfl rfl ?_
                    refine G.skip rfl rfl rfl rfl rfl rfl ?_
                    first | refine G.pickT rfl trivial rfl rfl rfl rfl ?_ | refine G.pickF rfl trivial rfl rfl rfl rfl ?_
                    refine G.moveB rfl trivial rfl rfl rfl ?_
                    refine G.skip rfl rfl rfl rfl rfl rfl ?_
                    refine G.skip rfl rfl rfl rfl rfl rfl ?_
                    refine G.skip rfl rfl rfl rfl rfl rfl ?_
                    first | refine G.pickT rfl trivial rfl rfl rfl rfl ?_ | refine G.pickF rfl trivial rfl rfl rfl rfl ?_
                    refine G.assignB rfl trivial rfl rfl rfl ?_
                    refine G.nil ?_
                    refine C.seq ?_
                    refine C.region ?_
                    refine G.moveP rfl trivial rfl rfl rfl ?_
                    refine G.makeInterface rfl trivial rfl rfl Try.underlying29 rfl ?_
                    refine G.moveI rfl trivial rfl rfl rfl ?_
                    refine G.call E15 rfl rfl trivial rfl rfl (used_spec W0 _ _ _ _ hA.us.len (aread_sheet W0 [_] [] bs pg sg hsg) ((kk : Int) - 1)) rfl ?_
                    rintro e L2 ⟨rfl, rfl⟩
                    have hhas := has_out (pg 1) (k := (kk : Int) - 1) (by omega)
                    rw [hhas] at hcs ⊢
                    refine G.moveU rfl trivial rfl rfl rfl ?_
                    refine G.extractL rfl trivial rfl rfl rfl rfl ?_
                    refine G.extractL rfl trivial rfl rfl rfl rfl ?_
                    refine G.assignB rfl trivial rfl rfl rfl ?_
                    refine G.assignI rfl trivial rfl rfl rfl ?_
                    refine G.nil ?_
                    refine C.seq ?_
                    refine C.seq ?_
                    refine C.region ?_
                    refine G.moveB rfl trivial rfl rfl rfl ?_
                    refine G.moveB rfl trivial rfl rfl rfl ?_
                    refine G.boolNe rfl trivial rfl rfl Try.underlying4 rfl rfl ?_
                    refine G.fix (d := 208) (v := .bool false) (rfl) ?_
                    refine G.moveB rfl trivial rfl rfl rfl ?_
                    refine G.moveI rfl ⟨_, rfl, rfl, rfl⟩ rfl rfl rfl ?_
                    refine G.bin rfl ⟨_, rfl, rfl, rfl⟩ rfl rfl rfl rfl rfl ?_
                    refine G.no (t := 211) rfl (by simp) ?_
                    first | refine G.pickT rfl trivial rfl rfl rfl rfl ?_ | refine G.pickF rfl trivial rfl rfl rfl rfl ?_
                    refine G.nil ?_
                    refine C.condF rfl ?_
                    refine C.skip ?_
                    refine C.seq ?_
                    refine C.region ?_
                    refine G.moveB rfl trivial rfl rfl rfl ?_
                    refine G.nil ?_
                    refine C.condF rfl ?_
                    refine C.skip ?_
                    refine C.region ?_
                    refine G.moveI rfl trivial rfl rfl rfl ?_
                    refine G.add rfl trivial rfl rfl rfl rfl (by omega) ?_
                    refine G.assignI rfl trivial rfl rfl rfl ?_
                    refine G.nil ?_
                    exact ⟨35 - (kk + 1), by omega, kk + 1, by omega, rfl, (by show Value.int .i64 _ = _; congr 1; omega), (by show Value.int .i64 ((countU (pg 1) (kk - 1) : Nat) : Int) = Value.int .i64 ((countU (pg 1) (kk + 1 - 1) : Nat) : Int); rw [hcs]; rfl), rfl, rfl, rfl, rfl, rfl, rfl, rfl, rfl, rfl⟩
                · intro hc14
                  obtain rfl : kk = 35 := by omega
                  refine C.exit ?_
                  refine C.seq ?_
                  refine C.region ?_
                  refine G.moveP rfl trivial rfl rfl rfl ?_
                  refine G.makeInterface rfl trivial rfl rfl Try.underlying29 rfl ?_
                  refine G.call E16 rfl rfl trivial rfl rfl (count_spec W0 _ _ _ _ hA.us.len (aread_sheet W0 [_] [] bs pg sg hsg)) rfl ?_
                  rintro e L2 ⟨rfl, rfl⟩
                  rw [← countU_end]
                  refine G.moveU rfl trivial rfl rfl rfl ?_
                  refine G.extractL rfl trivial rfl rfl rfl rfl ?_
                  refine G.extractL rfl trivial rfl rfl rfl rfl ?_
                  refine G.assignI rfl trivial rfl rfl rfl ?_
                  refine G.assignI rfl trivial rfl rfl rfl ?_
                  refine G.nil ?_
                  refine C.seq ?_
                  refine C.region ?_
                  refine G.moveP rfl trivial rfl rfl rfl ?_
                  refine G.makeInterface rfl trivial rfl rfl Try.underlying29 rfl ?_
                  refine G.call E17 rfl rfl trivial rfl rfl (root_spec W0 _ _ _ _ hA.us.len (aread_sheet W0 [_] [] bs pg sg hsg)) rfl ?_
                  rintro e L2 ⟨rfl, rfl⟩
                  rw [hA.us.root, if_pos hA.root]
                  refine G.moveU rfl trivial rfl rfl rfl ?_
                  refine G.extractL rfl trivial rfl rfl rfl rfl ?_
                  refine G.extractL rfl trivial rfl rfl rfl rfl ?_
                  refine G.assignI rfl trivial rfl rfl rfl ?_
                  refine G.assignI rfl trivial rfl rfl rfl ?_
                  refine G.nil ?_
                  refine C.seq ?_
                  refine C.region ?_
                  refine G.moveI rfl trivial rfl rfl rfl ?_
                  refine G.moveI rfl trivial rfl rfl rfl ?_
                  refine G.bin rfl trivial rfl rfl rfl rfl rfl ?_
                  refine G.no (t := 230) rfl (by simp) ?_
                  refine G.moveB rfl trivial rfl rfl rfl ?_
                  refine G.moveI rfl ⟨_, rfl, rfl, rfl⟩ rfl rfl rfl ?_
                  refine G.bin rfl ⟨_, rfl, rfl, rfl⟩ rfl rfl rfl rfl rfl ?_
                  refine G.no (t := 233) rfl (by simp) ?_
                  first | refine G.pickT rfl trivial rfl rfl rfl rfl ?_ | refine G.pickF rfl trivial rfl rfl rfl rfl ?_
                  refine G.moveB rfl trivial rfl rfl rfl ?_
                  refine G.moveI rfl ⟨_, rfl, rfl, rfl⟩ rfl rfl rfl ?_
                  refine G.moveI rfl ⟨_, rfl, rfl, rfl⟩ rfl rfl rfl ?_
                  refine G.bin rfl ⟨_, rfl, rfl, rfl⟩ rfl rfl rfl rfl rfl ?_
                  refine G.no (t := 238) rfl (by simp) ?_
                  first | refine G.pickT rfl trivial rfl rfl rfl rfl ?_ | refine G.pickF rfl trivial rfl rfl rfl rfl ?_
                  refine G.moveB rfl trivial rfl rfl rfl ?_
                  refine G.moveI rfl ⟨_, rfl, rfl, rfl⟩ rfl rfl rfl ?_
                  refine G.bin rfl ⟨_, rfl, rfl, rfl⟩ rfl rfl rfl rfl rfl ?_
                  refine G.no (t := 242) rfl (by simp) ?_
                  first | refine G.pickT rfl trivial rfl rfl rfl rfl ?_ | refine G.pickF rfl trivial rfl rfl rfl rfl ?_
                  refine G.nil ?_
                  refine C.condF rfl ?_
                  refine C.skip ?_
                  refine C.region ?_
                  refine G.moveI rfl trivial rfl rfl rfl ?_
                  refine G.add rfl trivial rfl rfl rfl rfl (by omega) ?_
                  refine G.assignI rfl trivial rfl rfl rfl ?_
                  refine G.nil ?_
                  exact ⟨ls.length - (i + 1), by omega, i + 1, pg, sg, u, rr, U, by omega, hsg, hA, rfl, rfl, rfl, rfl, rfl, rfl, rfl, rfl, rfl, rfl⟩
      · intro hc2
        refine C.exit ?_
        refine C.seq ?_
        refine C.region ?_
        refine G.moveP rfl trivial rfl rfl rfl ?_
        refine G.call E11 rfl rfl trivial rfl rfl (spage_spec W0 [_] [] bs pg sg hsg 1 (by decide)) rfl ?_
        rintro e L2 ⟨v246, s246, hv246, rfl, rfl⟩
        obtain ⟨b246, c246, k246, rfl, rfl, hk246, hc246⟩ := hv246.block (by decide)
        have hpl := hA.us.len
        have hcut : ∀ L', Rd W0 ([(b246, .row (bytesV (pg 1)) 5 k246)] :: L') (cutA (some ⟨b246, 0, none⟩) c246 5 1) (bytesV ((pg 1).drop 5)) := fun L' => by
          have h := (Rd.row0 (W0 := W0) (L := [(b246, .row (bytesV (pg 1)) 5 k246)] :: L') .here).cut (n := 256) (cap := c246) (l := 5) (sz := 1) (by rw [bytesV_length, hpl]) hc246
          rw [bytesV_drop] at h
          exact h
        have hcutP : Rd W0 ([(b246, .row (bytesV (pg 1)) 5 k246)] :: [(b10, .row (U.map Value.bool) 31 32)] :: sg :: []) (cutA (some ⟨b39, 0, none⟩) 256 5 1) (bytesV ((startP b).drop 5)) := by
          have h := (Sh.rd W0 [[(b246, .row (bytesV (pg 1)) 5 k246)], [(b10, .row (U.map Value.bool) 31 32)]] [] bs hsg).cut (n := 256) (cap := 256) (l := 5) (sz := 1) (by rw [bytesV_length, startP_length]) (Nat.le_refl _)
          rw [bytesV_drop] at h
          exact h
        refine G.moveU rfl trivial rfl rfl rfl ?_
        refine G.extractL rfl trivial rfl rfl rfl rfl ?_
        refine G.extractL rfl trivial rfl rfl rfl rfl ?_
        refine G.assignS rfl trivial rfl rfl rfl ?_
        refine G.assignI rfl trivial rfl rfl rfl ?_
        refine G.nil ?_
        refine C.seq ?_
        refine C.drawn mixed (_) [] (fun _ h => h) ?_
        refine GA.pure (i := 0) (fun _ _ _ _ _ h => h) rfl (by kernel_rfl) trivial rfl rfl (Y.moveS rfl rfl) (#[true, false, false, false, false, false, false, false, false, false, false, false, false, false, false, false, false]) (by kernel_rfl) ?_
        refine GA.pure (i := 1) (fun _ _ _ _ _ h => h) rfl (by kernel_rfl) trivial rfl rfl (Y.indexAddr rfl Try.underlying25 I5 rfl rfl (by omega)) (#[true, true, false, false, false, false, false, false, false, false, false, false, false, false, false, false, false]) (by kernel_rfl) ?_
        refine GA.fix (d := 250) (v := .pointer (some ⟨b246, 0, none⟩)) rfl ?_
        refine GA.read (i := 2) (fun _ _ _ _ _ h => h) rfl (by kernel_rfl) (by kernel_rfl) trivial rfl rfl (Y.loadAt (v := .int .u8 (((pg 1)[0]?.getD 0).toNat : Int)) .here rfl Try.underlying5 rfl rfl (byte0 hpl)) (#[true, true, true, false, false, false, false, false, false, false, false, false, false, false, false, false, false]) (by kernel_rfl) ?_
        refine GA.pure (i := 3) (fun _ _ _ _ _ h => h) rfl (by kernel_rfl) trivial rfl rfl (Y.bin rfl rfl rfl rfl) (#[true, true, true, true, false, false, false, false, false, false, false, false, false, false, false, false, false]) (by kernel_rfl) ?_
        refine GA.fix (d := 252) (v := .int .u8 ((and3 ((pg 1)[0]?.getD 0)).toNat : Int)) (and3_val _) ?_
        refine GA.pure (i := 4) (fun _ _ _ _ _ h => h) rfl (by kernel_rfl) trivial rfl rfl (Y.moveI rfl rfl) (#[true, true, true, true, true, false, false, false, false, false, false, false, false, false, false, false, false]) (by kernel_rfl) ?_
        refine GA.pure (i := 5) (fun _ _ _ _ _ h => h) rfl (by kernel_rfl) trivial rfl rfl (Y.bin rfl rfl rfl rfl) (#[true, true, true, true, true, true, false, false, false, false, false, false, false, false, false, false, false]) (by kernel_rfl) ?_
        refine GA.fix (d := 254) (v := .int .u8 ((and3 b).toNat : Int)) (and3_val _) ?_
        refine GA.pure (i := 6) (fun _ _ _ _ _ h => h) rfl (by kernel_rfl) trivial rfl rfl (Y.bin rfl rfl rfl rfl) (#[true, true, true, true, true, true, true, false, false, false, false, false, false, false, false, false, false]) (by kernel_rfl) ?_
        refine GA.yes (t := 255) rfl (by rw [hA.keeps.1]) ?_
        refine GA.pure (i := 7) (fun _ _ _ _ _ h => h) rfl (by kernel_rfl) trivial rfl rfl (Y.moveB rfl rfl) (#[true, true, true, true, true, true, true, true, false, false, false, false, false, false, false, false, false]) (by kernel_rfl) ?_
        refine GA.pure (i := 8) (fun _ _ _ _ _ h => h) rfl (by kernel_rfl) ⟨_, rfl, rfl, rfl⟩ rfl rfl (Y.moveS rfl rfl) (#[true, true, true, true, true, true, true, true, true, false, false, false, false, false, false, false, false]) (by kernel_rfl) ?_
        refine GA.pure (i := 9) (fun _ _ _ _ _ h => h) rfl (by kernel_rfl) ⟨_, rfl, rfl, rfl⟩ rfl rfl (Y.sliceL rfl Try.underlying25 I5 rfl rfl (by omega)) (#[true, true, true, true, true, true, true, true, true, true, false, false, false, false, false, false, false]) (by kernel_rfl) ?_
        refine GA.read (i := 10) (fun _ _ _ _ _ h => h) rfl (by kernel_rfl) (by kernel_rfl) ⟨_, rfl, rfl, rfl⟩ rfl rfl (Y.bytesStr ((pg 1).drop 5) rfl Try.underlying25 Try.underlying5 Try.underlying9 rfl (by rw [List.length_drop, hpl]; rfl) (hcut _)) (#[true, true, true, true, true, true, true, true, true, true, true, false, false, false, false, false, false]) (by kernel_rfl) ?_
        refine GA.pure (i := 11) (fun _ _ _ _ _ h => h) rfl (by kernel_rfl) ⟨_, rfl, rfl, rfl⟩ rfl rfl (Y.moveS rfl rfl) (#[true, true, true, true, true, true, true, true, true, true, true, true, false, false, false, false, false]) (by kernel_rfl) ?_
        refine GA.pure (i := 12) (fun _ _ _ _ _ h => h) rfl (by kernel_rfl) ⟨_, rfl, rfl, rfl⟩ rfl rfl (Y.sliceL rfl Try.underlying25 I5 rfl rfl (by omega)) (#[true, true, true, true, true, true, true, true, true, true, true, true, true, false, false, false, false]) (by kernel_rfl) ?_
        refine GA.read (i := 13) (fun _ _ _ _ _ h => h) rfl (by kernel_rfl) (by kernel_rfl) ⟨_, rfl, rfl, rfl⟩ rfl rfl (Y.bytesStr ((startP b).drop 5) rfl Try.underlying25 Try.underlying5 Try.underlying9 rfl (by rw [List.length_drop, startP_length]; rfl) hcutP) (#[true, true, true, true, true, true, true, true, true, true, true, true, true, true, false, false, false]) (by kernel_rfl) ?_
        refine GA.pure (i := 14) (fun _ _ _ _ _ h => h) rfl (by kernel_rfl) ⟨_, rfl, rfl, rfl⟩ rfl rfl (Y.strEq rfl  rfl rfl) (#[true, true, true, true, true, true, true, true, true, true, true, true, true, true, true, false, false]) (by kernel_rfl) ?_
        refine GA.yes (t := 263) rfl (by rw [hA.keeps.2, startP_drop]) ?_
        first | refine GA.pure (i := 15) (fun _ _ _ _ _ h => h) rfl (by kernel_rfl) trivial rfl rfl (Y.pickT rfl rfl rfl) (#[true, true, true, true, true, true, true, true, true, true, true, true, true, true, true, true, false]) (by kernel_rfl) ?_ | refine GA.pure (i := 15) (fun _ _ _ _ _ h => h) rfl (by kernel_rfl) trivial rfl rfl (Y.pickF rfl rfl rfl) (#[true, true, true, true, true, true, true, true, true, true, true, true, true, true, true, true, false]) (by kernel_rfl) ?_
        refine GA.pure (i := 16) (fun _ _ _ _ _ h => h) rfl (by kernel_rfl) trivial rfl rfl (Y.assignB rfl rfl) (#[true, true, true, true, true, true, true, true, true, true, true, true, true, true, true, true, true]) (by kernel_rfl) ?_
        refine GA.done (by kernel_rfl) ?_
        refine C.ret ?_
        -- end c1Fg64Tc2F
        exact ⟨rfl, _, Res.of (rs := [.tmp 4]) rfl rfl, rfl⟩
    · intro hg64
      refine G.skip rfl rfl rfl rfl rfl rfl ?_
      refine G.skip rfl rfl rfl rfl rfl rfl ?_
      first | refine G.pickT rfl trivial rfl rfl rfl rfl ?_ | refine G.pickF rfl trivial rfl rfl rfl rfl ?_
      refine G.nil ?_
      refine C.condF rfl ?_
      refine C.exit ?_
      refine C.seq ?_
      refine C.region ?_
      refine G.moveP rfl trivial rfl rfl rfl ?_
      refine G.call E11 rfl rfl trivial rfl rfl (spage_spec W0 [_] [] bs pg sg hsg 1 (by decide)) rfl ?_
      rintro e L2 ⟨v246, s246, hv246, rfl, rfl⟩
      obtain ⟨b246, c246, k246, rfl, rfl, hk246, hc246⟩ := hv246.block (by decide)
      have hpl := hA.us.len
      have hcut : ∀ L', Rd W0 ([(b246, .row (bytesV (pg 1)) 5 k246)] :: L') (cutA (some ⟨b246, 0, none⟩) c246 5 1) (bytesV ((pg 1).drop 5)) := fun L' => by
        have h := (Rd.row0 (W0 := W0) (L := [(b246, .row (bytesV (pg 1)) 5 k246)] :: L') .here).cut (n := 256) (cap := c246) (l := 5) (sz := 1) (by rw [bytesV_length, hpl]) hc246
        rw [bytesV_drop] at h
        exact h
      have hcutP : Rd W0 ([(b246, .row (bytesV (pg 1)) 5 k246)] :: [(b10, .row (U.map Value.bool) 31 32)] :: sg :: []) (cutA (some ⟨b39, 0, none⟩) 256 5 1) (bytesV ((startP b).drop 5)) := by
        have h := (Sh.rd W0 [[(b246, .row (bytesV (pg 1)) 5 k246)], [(b10, .row (U.map Value.bool) 31 32)]] [] bs hsg).cut (n := 256) (cap := 256) (l := 5) (sz := 1) (by rw [bytesV_length, startP_length]) (Nat.le_refl _)
        rw [bytesV_drop] at h
        exact h
      refine G.moveU rfl trivial rfl rfl rfl ?_
      refine G.extractL rfl trivial rfl rfl rfl rfl ?_
      refine G.extractL rfl trivial rfl rfl rfl rfl ?_
      refine G.assignS rfl trivial rfl rfl rfl ?_
      refine G.assignI rfl trivial rfl rfl rfl ?_
      refine G.nil ?_
      refine C.seq ?_
      refine C.drawn mixed (_) [] (fun _ h => h) ?_
      refine GA.pure (i := 0) (fun _ _ _ _ _ h => h) rfl (by kernel_rfl) trivial rfl rfl (Y.moveS rfl rfl) (#[true, false, false, false, false, false, false, false, false, false, false, false, false, false, false, false, false]) (by kernel_rfl) ?_
      refine GA.pure (i := 1) (fun _ _ _ _ _ h => h) rfl (by kernel_rfl) trivial rfl rfl (Y.indexAddr rfl Try.underlying25 I5 rfl rfl (by omega)) (#[true, true, false, false, false, false, false, false, false, false, false, false, false, false, false, false, false]) (by kernel_rfl) ?_
      refine GA.fix (d := 250) (v := .pointer (some ⟨b246, 0, none⟩)) rfl ?_
      refine GA.read (i := 2) (fun _ _ _ _ _ h => h) rfl (by kernel_rfl) (by kernel_rfl) trivial rfl rfl (Y.loadAt (v := .int .u8 (((pg 1)[0]?.getD 0).toNat : Int)) .here rfl Try.underlying5 rfl rfl (byte0 hpl)) (#[true, true, true, false, false, false, false, false, false, false, false, false, false, false, false, false, false]) (by kernel_rfl) ?_
      refine GA.pure (i := 3) (fun _ _ _ _ _ h => h) rfl (by kernel_rfl) trivial rfl rfl (Y.bin rfl rfl rfl rfl) (#[true, true, true, true, false, false, false, false, false, false, false, false, false, false, false, false, false]) (by kernel_rfl) ?_
      refine GA.fix (d := 252) (v := .int .u8 ((and3 ((pg 1)[0]?.getD 0)).toNat : Int)) (and3_val _) ?_
      refine GA.pure (i := 4) (fun _ _ _ _ _ h => h) rfl (by kernel_rfl) trivial rfl rfl (Y.moveI rfl rfl) (#[true, true, true, true, true, false, false, false, false, false, false, false, false, false, false, false, false]) (by kernel_rfl) ?_
      refine GA.pure (i := 5) (fun _ _ _ _ _ h => h) rfl (by kernel_rfl) trivial rfl rfl (Y.bin rfl rfl rfl rfl) (#[true, true, true, true, true, true, false, false, false, false, false, false, false, false, false, false, false]) (by kernel_rfl) ?_
      refine GA.fix (d := 254) (v := .int .u8 ((and3 b).toNat : Int)) (and3_val _) ?_
      refine GA.pure (i := 6) (fun _ _ _ _ _ h => h) rfl (by kernel_rfl) trivial rfl rfl (Y.bin rfl rfl rfl rfl) (#[true, true, true, true, true, true, true, false, false, false, false, false, false, false, false, false, false]) (by kernel_rfl) ?_
      refine GA.yes (t := 255) rfl (by rw [hA.keeps.1]) ?_
      refine GA.pure (i := 7) (fun _ _ _ _ _ h => h) rfl (by kernel_rfl) trivial rfl rfl (Y.moveB rfl rfl) (#[true, true, true, true, true, true, true, true, false, false, false, false, false, false, false, false, false]) (by kernel_rfl) ?_
      refine GA.pure (i := 8) (fun _ _ _ _ _ h => h) rfl (by kernel_rfl) ⟨_, rfl, rfl, rfl⟩ rfl rfl (Y.moveS rfl rfl) (#[true, true, true, true, true, true, true, true, true, false, false, false, false, false, false, false, false]) (by kernel_rfl) ?_
      refine GA.pure (i := 9) (fun _ _ _ _ _ h => h) rfl (by kernel_rfl) ⟨_, rfl, rfl, rfl⟩ rfl rfl (Y.sliceL rfl Try.underlying25 I5 rfl rfl (by omega)) (#[true, true, true, true, true, true, true, true, true, true, false, false, false, false, false, false, false]) (by kernel_rfl) ?_
      refine GA.read (i := 10) (fun _ _ _ _ _ h => h) rfl (by kernel_rfl) (by kernel_rfl) ⟨_, rfl, rfl, rfl⟩ rfl rfl (Y.bytesStr ((pg 1).drop 5) rfl Try.underlying25 Try.underlying5 Try.underlying9 rfl (by rw [List.length_drop, hpl]; rfl) (hcut _)) (#[true, true, true, true, true, true, true, true, true, true, true, false, false, false, false, false, false]) (by kernel_rfl) ?_
      refine GA.pure (i := 11) (fun _ _ _ _ _ h => h) rfl (by kernel_rfl) ⟨_, rfl, rfl, rfl⟩ rfl rfl (Y.moveS rfl rfl) (#[true, true, true, true, true, true, true, true, true, true, true, true, false, false, false, false, false]) (by kernel_rfl) ?_
      refine GA.pure (i := 12) (fun _ _ _ _ _ h => h) rfl (by kernel_rfl) ⟨_, rfl, rfl, rfl⟩ rfl rfl (Y.sliceL rfl Try.underlying25 I5 rfl rfl (by omega)) (#[true, true, true, true, true, true, true, true, true, true, true, true, true, false, false, false, false]) (by kernel_rfl) ?_
      refine GA.read (i := 13) (fun _ _ _ _ _ h => h) rfl (by kernel_rfl) (by kernel_rfl) ⟨_, rfl, rfl, rfl⟩ rfl rfl (Y.bytesStr ((startP b).drop 5) rfl Try.underlying25 Try.underlying5 Try.underlying9 rfl (by rw [List.length_drop, startP_length]; rfl) hcutP) (#[true, true, true, true, true, true, true, true, true, true, true, true, true, true, false, false, false]) (by kernel_rfl) ?_
      refine GA.pure (i := 14) (fun _ _ _ _ _ h => h) rfl (by kernel_rfl) ⟨_, rfl, rfl, rfl⟩ rfl rfl (Y.strEq rfl  rfl rfl) (#[true, true, true, true, true, true, true, true, true, true, true, true, true, true, true, false, false]) (by kernel_rfl) ?_
      refine GA.yes (t := 263) rfl (by rw [hA.keeps.2, startP_drop]) ?_
      first | refine GA.pure (i := 15) (fun _ _ _ _ _ h => h) rfl (by kernel_rfl) trivial rfl rfl (Y.pickT rfl rfl rfl) (#[true, true, true, true, true, true, true, true, true, true, true, true, true, true, true, true, false]) (by kernel_rfl) ?_ | refine GA.pure (i := 15) (fun _ _ _ _ _ h => h) rfl (by kernel_rfl) trivial rfl rfl (Y.pickF rfl rfl rfl) (#[true, true, true, true, true, true, true, true, true, true, true, true, true, true, true, true, false]) (by kernel_rfl) ?_
      refine GA.pure (i := 16) (fun _ _ _ _ _ h => h) rfl (by kernel_rfl) trivial rfl rfl (Y.assignB rfl rfl) (#[true, true, true, true, true, true, true, true, true, true, true, true, true, true, true, true, true]) (by kernel_rfl) ?_
      refine GA.done (by kernel_rfl) ?_
      refine C.ret ?_
      -- end c1Fg64F
      exact ⟨rfl, _, Res.of (rs := [.tmp 4]) rfl rfl, rfl⟩
end laws
end Go.Proofs.Ytoegcjgdaikfiaa
