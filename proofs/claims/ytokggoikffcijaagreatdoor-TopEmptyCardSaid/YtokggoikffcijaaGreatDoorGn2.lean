/-
  The log's ring read from the device, as a native of the evaluator.
-/
import Derived.Test.YtokggoikffcijaaGreatDoorGn1
import Derived.Test.YtokggoikffcijaaGreatDoorGv4
namespace Go.Proofs.YtokggoikffcijaaGreatDoor
open Go Go.SL Go.RowKit Go.Ev
noncomputable section
section
variable {W0 w w' : World} {φ : Phi} {h : Hp}
theorem mem3 (hs : Sm W0 φ h w) {a1 a2 a3 : Ev.Id} {o1 o2 o3 : HO} {B1 B2 B3 : Bk} (n12 : a1 ≠ a2) (n13 : a1 ≠ a3) (n23 : a2 ≠ a3) (g1 : PT.get a1 h.mem = some o1) (g2 : PT.get a2 h.mem = some o2) (g3 : PT.get a3 h.mem = some o3) (ha1 : φ a1 = some B1) (ha2 : φ a2 = some B2) (ha3 : φ a3 = some B3) {s1 s2 s3 : SObj} (h1 : Holds w B1.b s1) (h2 : Holds w B2.b s2) (h3 : Holds w B3.b s3) :
    Mem W0 w ([(B1.b, s1)] :: [(B2.b, s2), (B3.b, s3)] :: [others W0 w [B1.b, B2.b, B3.b]]) := by
  have e12 := hs.apart a1 a2 o1 o2 B1 B2 g1 g2 ha1 ha2 n12
  have e13 := hs.apart a1 a3 o1 o3 B1 B3 g1 g3 ha1 ha3 n13
  have e23 := hs.apart a2 a3 o2 o3 B2 B3 g2 g3 ha2 ha3 n23
  have : Mem W0 w ([(B1.b, s1)] :: [[(B2.b, s2), (B3.b, s3)]]) := ⟨hs.below, by simp [e12, e13, e23], fun p hp => by
    simp only [List.flatten_cons, List.flatten_nil, List.append_nil, List.cons_append, List.nil_append, List.mem_cons, List.not_mem_nil, or_false] at hp
    rcases hp with rfl | rfl | rfl
    · exact ⟨(hs.own a1 o1 B1 g1 ha1).1, h1⟩
    · exact ⟨(hs.own a2 o2 B2 g2 ha2).1, h2⟩
    · exact ⟨(hs.own a3 o3 B3 g3 ha3).1, h3⟩⟩
  simpa using full this
def ldG (c : T V) : T V := T.sub c 0 64
theorem ldG_ok : GOK ldG (fun s => bytesV s.now) := fun _ _ _ h1 _ => h1
theorem ringU_eq {d : Dv} (hd : d.ok) (hn : d.l.length = 1410) : ((d.l.flatMap fun s => bytesV s.now).drop 24704).take 65536 = ringU d 1024 := by
  have hl : ∀ (l : List Sec), (∀ s ∈ l, s.ok) → (l.flatMap fun s => bytesV s.now).length = 64 * l.length := fun l h => chunk_length (k := 64) (fun s hs => by rw [bytesV_length]; exact (h s hs).1)
  have e1 : d.l = d.l.take 386 ++ ((d.l.drop 386).take 1024 ++ (d.l.drop 386).drop 1024) := by rw [List.take_append_drop, List.take_append_drop]
  have k1 := hl (d.l.take 386) (fun s hs => hd.1 s (List.mem_of_mem_take hs))
  have k2 := hl ((d.l.drop 386).take 1024) (fun s hs => hd.1 s (List.mem_of_mem_drop (List.mem_of_mem_take hs)))
  rw [List.length_take, hn] at k1
  rw [List.length_take, List.length_drop, hn] at k2
  unfold ringU
  generalize hx : (d.l.drop 386).take 1024 = x at e1 k2
  rw [e1, List.flatMap_append, List.flatMap_append, List.drop_append, List.drop_eq_nil_of_le (by omega), List.nil_append, k1]
  rw [show 24704 - 64 * min 386 1410 = 0 by omega, List.drop_zero, List.take_append_of_le_length (by omega), List.take_of_length_le (by omega)]
theorem seg3 {xs : List Value} (h : 65538 ≤ xs.length) : ∃ v0 x1 cs post, xs = v0 :: x1 :: (cs ++ post) ∧ cs.length = 65536 ∧ xs.take 2 = [v0, x1] ∧ xs.drop 65538 = post ∧ xs[0]? = some v0 := by
  match xs, h with
  | v0 :: x1 :: r, h =>
    simp only [List.length_cons] at h
    exact ⟨v0, x1, r.take 65536, r.drop 65536, by rw [List.take_append_drop], by rw [List.length_take]; omega, rfl, rfl, rfl⟩
def loadN (_hd : Hd) (args : List V) (h : Hp) : Ox := match args with
  | [.p g 0] => match PT.get g h.mem with
    | some (.row t s c) => ite' (Bool.and (Nat.beq t 259) (Nat.ble 65538 (T.size c))) (elP (T.get c 0) (.no 750) fun a o => ite' (Bool.and (Nat.beq o 0) (Bool.not (Id.beq g a))) (devG a h fun b n calls lit fuse dead s1 s2 c2 =>
        ite' (Bool.and (Nat.beq n 1410) (Bool.not (Id.beq g b))) (Option.rec (motive := fun _ => Ox) (.no 751) (fun r => .val (.i .i64 (.ofNat 0)) ⟨h.next, PT.set g (some (.row 259 s (T.put c 2 (T.sub r 24704 65536)))) h.mem⟩) (mapS ldG c2)) (.no 752)) (.no 753)) (.no 754)
    | _ => .no 755
  | _ => .no 756
theorem loadN_ok (hd : Hd) (args : List V) (h : Hp) (φ : Phi) (w : World) (argsR : List Value) (hs : Sm W0 φ h w) (hl : LR φ args argsR) : CallOK Tryz.prog W0 φ h w 183 argsR.toArray (loadN hd args h) := by
  unfold loadN
  split
  · rename_i g
    obtain ⟨x, rfl, hx⟩ := hl.one
    obtain ⟨Bg, hg, hx⟩ := hx.p
    split
    · rename_i t s c hgg
      cases h1 : Bool.and (Nat.beq t 259) (Nat.ble 65538 (T.size c)) with
      | false => trivial
      | true =>
        simp only [Bool.and_eq_true] at h1
        have ht := Nat.eq_of_beq_eq_true h1.1
        have hsz := Nat.le_of_ble_eq_true h1.2
        subst ht
        have hfg := hs.flat hgg hg (by decide)
        rw [hfg] at hx
        subst hx
        obtain ⟨pre, xs, p1, p2, p3, p4, p5, p6⟩ := hs.row hgg hg
        obtain rfl : pre = [] := List.eq_nil_of_length_eq_zero (by rw [p1]; exact hfg)
        have p2 : Holds w Bg.b (.row xs 259 Bg.k) := p2
        rw [← p5] at hsz
        obtain ⟨v0, x1, cs, post, hxs, hcs, e2, e3, e0⟩ := seg3 hsz
        obtain ⟨y0, q0, r0⟩ := TR.get p3 (i := 0) (by omega)
        rw [e0] at q0
        cases q0
        show CallOK Tryz.prog W0 φ h w _ _ (elP (T.get c 0) _ _)
        cases hv0 : T.get c 0 <;> try trivial
        rename_i a o
        rw [hv0] at r0
        show CallOK Tryz.prog W0 φ h w _ _ (ite' (Bool.and (Nat.beq o 0) (Bool.not (Id.beq g a))) _ _)
        cases h2 : Bool.and (Nat.beq o 0) (Bool.not (Id.beq g a)) with
        | false => trivial
        | true =>
          simp only [Bool.and_eq_true, Bool.not_eq_true'] at h2
          have ho := Nat.eq_of_beq_eq_true h2.1
          subst ho
          have nga : g ≠ a := fun e => by have := h2.2; rw [Id.beq_iff.2 e] at this; cases this
          obtain ⟨B1, ha, e⟩ := r0.p
          refine devG_ok (Q := CallOK Tryz.prog W0 φ h w _ _) hs ha (fun _ => trivial) fun b B2 n calls lit fuse dead s1 s2 c1 c2 ys hdi => ?_
          have ha0 := hs.flat hdi.ga ha (by decide)
          have hb0 := hs.flat hdi.gb hdi.hb (by decide)
          rw [ha0] at e
          subst e
          cases h3 : Bool.and (Nat.beq n 1410) (Bool.not (Id.beq g b)) with
          | false => trivial
          | true =>
            simp only [Bool.and_eq_true, Bool.not_eq_true'] at h3
            have hn := Nat.eq_of_beq_eq_true h3.1
            have ngb : g ≠ b := fun e => by have := h3.2; rw [Id.beq_iff.2 e] at this; cases this
            show CallOK Tryz.prog W0 φ h w _ _ (Option.rec (motive := fun _ => Ox) _ _ (mapS ldG c2))
            cases hm : mapS ldG c2 with
            | none => trivial
            | some r =>
              obtain ⟨ss, hok, rfl, hr⟩ := mapS_ok ldG_ok hdi.rb (by rw [hdi.len]; omega) hm
              have hsn := secs_n hok rfl hdi.len
              have hdv := hdi.dv hok rfl
              rw [hn] at hsn
              subst hxs
              have hm0 := mem3 hs nga ngb hdi.ne hgg hdi.ga hdi.gb hg ha hdi.hb p2 hdi.ha hdi.hbl
              have key := load_gen W0 [] [others W0 w [Bg.b, B1.b, B2.b]] B1.k B2.k Bg.b B1.b B2.b Bg.k x1 post { l := ss, calls := calls, lit := lit, fuse := fuse, dead := dead } hdv hsn cs hcs
              rw [← hsn] at hn
              subst hn
              refine (key w hm0).mono ?_
              rintro e w' ⟨L', hm', rfl, rfl⟩
              have g1 := hm'.get (b := Bg.b) .here
              have g2 := hm'.get (b := B1.b) (.next .here)
              have g3 := hm'.get (b := B2.b) (.next .in1)
              have hring := ringU_eq hdv hsn
              have hrl : (ss.flatMap fun s => bytesV s.now).length = 64 * ss.length := chunk_length (k := 64) (fun s hs => by rw [bytesV_length]; exact (hok s hs).1)
              have hsn' : ss.length = 1410 := hsn
              have t1 := TR.sub hr (lo := 24704) (k := 65536) (by rw [hrl]; omega)
              have hul : (ringU { l := ss, calls := calls, lit := lit, fuse := fuse, dead := dead } 1024).length = 65536 := ringU_length hdv hsn (by omega)
              have hring' : ((ss.flatMap fun s => bytesV s.now).drop 24704).take 65536 = ringU { l := ss, calls := calls, lit := lit, fuse := fuse, dead := dead } 1024 := hring
              rw [hring'] at t1
              have t2 := TR.put p3 t1 (lo := 2) (by rw [hul]; omega)
              rw [hul, e2, show 2 + 65536 = 65538 from rfl, e3] at t2
              have hokU : ∀ x ∈ ringU { l := ss, calls := calls, lit := lit, fuse := fuse, dead := dead } 1024, cellsOk x = true := fun x hx => by
                unfold ringU at hx
                obtain ⟨s, _, hx⟩ := List.mem_flatMap.1 hx
                exact bytesV_ok x hx
              obtain ⟨k1, k2⟩ := hs.recast (w' := w') hm'.below (PT.set g (some (.row 259 s (T.put c 2 (T.sub r 24704 65536)))) h.mem)
                (fun a' ha' => by rw [PT.get_set, if_neg (fun e => by subst e; rw [hg] at ha'; cases ha')]) fun a' o' B ha' hga => by
                rw [PT.get_set] at hga
                by_cases e0 : a' = g
                · subst e0
                  rw [if_pos rfl] at hga
                  cases hga
                  rw [hg] at ha'; cases ha'
                  refine ⟨⟨_, hgg⟩, ⟨p6, .inr hfg⟩, [], _, hfg.symm, g1.2, by simpa [lrow] using t2, fun x hx => ?_⟩
                  simp only [lrow, List.mem_cons, List.mem_append] at hx
                  rcases hx with rfl | rfl | hx | hx
                  · rfl
                  · exact p4 _ (by simp)
                  · exact hokU x hx
                  · exact p4 x (by simp [hx])
                · rw [if_neg e0] at hga
                  refine ⟨⟨_, hga⟩, ?_⟩
                  by_cases e1 : a' = a
                  · subst e1
                    rw [ha] at ha'; cases ha'
                    rw [hdi.ga] at hga; cases hga
                    exact ⟨⟨hdi.sa, .inr ha0⟩, [], _, ha0.symm, g2.2, hdi.ra, ints_okv _ _ _ _ _ _⟩
                  · by_cases e2 : a' = b
                    · subst e2
                      rw [hdi.hb] at ha'; cases ha'
                      rw [hdi.gb] at hga; cases hga
                      exact ⟨⟨hdi.sb, .inr hb0⟩, [], _, hb0.symm, g3.2, hdi.rb, hdi.okb⟩
                    · have k0 := hs.apart a' g o' _ B Bg hga hgg ha' hg e0
                      have k1 := hs.apart a' a o' _ B B1 hga hdi.ga ha' ha e1
                      have k2 := hs.apart a' b o' _ B B2 hga hdi.gb ha' hdi.hb e2
                      obtain ⟨_, k3⟩ := hs.own a' o' B hga ha'
                      exact k3.mono (Ext.refl φ) (same_of hs.below hm' (S := [Bg.b, B1.b, B2.b]) (fun p hp => by simp [hp]) k3.lt (by simp [k0, k1, k2]))
              exact ⟨φ, _, rfl, k2, k1, VR.i' _ _ _⟩
    · trivial
  · trivial
end
end
end Go.Proofs.YtokggoikffcijaaGreatDoor
