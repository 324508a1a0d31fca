/-
  A flush and a crash of the device as natives of the evaluator.
-/
import Derived.Test.YtokggoikffcijaaGreatDoorGn0
import Derived.Test.YtokggoikffcijaaGreatDoorGv2
import Derived.Test.YtokggoikffcijaaGreatDoorGv3
namespace Go.Proofs.YtokggoikffcijaaGreatDoor
open Go Go.SL Go.RowKit Go.Ev
noncomputable section
section
variable {W0 w w' : World} {φ : Phi} {h : Hp}
def flG (c : T V) : Option (T V) := ite' (restB c) none (some (T.cat (T.sub c 0 64) (T.cat (T.sub c 0 64) (.z 1 (.b false)))))
def crG (c : T V) : Option (T V) := ite' (restB c) none (some (T.cat (T.sub c 64 64) (T.cat (T.sub c 64 64) (.z 1 (.b false)))))
theorem bool1 (x : Bool) : TR φ (.z 1 (.b x)) [.bool x] := by
  unfold TR; exact ⟨rfl, fun y hy => by rw [List.mem_singleton] at hy; exact hy ▸ VR.b' _ _⟩
theorem flG_ok : GUK flG (fun s => Sec.cs s.flush) := fun φ c s ht hs h1 h2 => by
  unfold flG
  cases hr : restB c with
  | true =>
    obtain ⟨e1, e2⟩ := restB_ok hr hs ht h1 h2
    have : s.flush = s := by
      obtain ⟨now, lasts, loose⟩ := s
      simp only at e1 e2
      subst e1 e2
      rfl
    show TR φ c (Sec.cs s.flush)
    rw [this]
    exact ht
  | false =>
    have := TR.cat h1 (TR.cat h1 (bool1 false))
    show TR φ (T.cat (T.sub c 0 64) (T.cat (T.sub c 0 64) (.z 1 (.b false)))) _
    simpa [Sec.cs, Sec.flush] using this
theorem crG_ok : GUK crG (fun s => Sec.cs (both s.lasts)) := fun φ c s ht hs h1 h2 => by
  unfold crG
  cases hr : restB c with
  | true =>
    obtain ⟨e1, e2⟩ := restB_ok hr hs ht h1 h2
    have : both s.lasts = s := by
      obtain ⟨now, lasts, loose⟩ := s
      simp only at e1 e2
      subst e1 e2
      rfl
    show TR φ c (Sec.cs (both s.lasts))
    rw [this]
    exact ht
  | false =>
    have := TR.cat h2 (TR.cat h2 (bool1 false))
    show TR φ (T.cat (T.sub c 64 64) (T.cat (T.sub c 64 64) (.z 1 (.b false)))) _
    simpa [Sec.cs, both] using this
theorem flL (s : Sec) (h : s.ok) : (Sec.cs s.flush).length = 129 := Sec.cs_length ⟨h.1, h.1⟩
theorem crL (s : Sec) (h : s.ok) : (Sec.cs (both s.lasts)).length = 129 := Sec.cs_length ⟨h.2, h.2⟩
theorem secs_n {ss : List Sec} {xs : List Value} {n : Nat} (hok : ∀ s ∈ ss, s.ok) (he : xs = secsV ss) (hl : xs.length = n * 129) : ss.length = n := by
  have := secsV_length hok
  rw [← he, hl] at this
  omega
theorem secs_okv {ss : List Sec} : ∀ x ∈ secsV ss, cellsOk x = true := fun x hx => by
  obtain ⟨s, _, hx⟩ := List.mem_flatMap.1 hx
  exact cs_okv s x hx
theorem ints_okv (b n : Nat) (calls : Int) (lit : Bool) (fuse : Int) (dead : Bool) : ∀ x ∈ ([.slice (some ⟨b, 0, none⟩) n n, .int .i64 calls, .bool lit, .int .i64 fuse, .bool dead] : List Value), cellsOk x = true := by
  intro x hx
  simp only [List.mem_cons, List.not_mem_nil, or_false] at hx
  rcases hx with rfl | rfl | rfl | rfl | rfl <;> rfl
/-- the device's sectors, as the contracts have them -/
theorem DevIn.dv {a b : Ev.Id} {B1 B2 : Bk} {n : Nat} {calls : Int} {lit : Bool} {fuse : Int} {dead : Bool} {s s2 : Nat} {c c2 : T V} {xs : List Value} (hd : DevIn W0 w φ h a b B1 B2 n calls lit fuse dead s s2 c c2 xs)
    {ss : List Sec} (hok : ∀ s ∈ ss, s.ok) (he : xs = secsV ss) : ({ l := ss, calls := calls, lit := lit, fuse := fuse, dead := dead } : Dv).ok :=
  ⟨hok, by rw [secs_n hok he hd.len]; exact hd.hi, hd.f0, hd.f1⟩
def deadB (lit : Bool) (fuse : Int) (dead : Bool) : Bool := Bool.or dead (Bool.and lit (keyEq fuse 0))
def flushN (_hd : Hd) (args : List V) (h : Hp) : Ox := match args with
  | [.p a 0] => devG a h fun b n calls lit fuse dead s s2 c2 => ite' (deadB lit fuse dead) (.no 740) (Option.rec (motive := fun _ => Ox) (.no 741) (fun r =>
      .val (.i .i64 (.ofNat 0)) ⟨h.next, PT.set b (some (.row 119 s2 (getU r c2))) (PT.set a (some (.row 116 s (devC b n (inc calls) lit (ite' lit (Int.sub fuse 1) fuse) dead))) h.mem)⟩) (mapU flG c2))
  | _ => .no 742
theorem flushN_ok (hd : Hd) (args : List V) (h : Hp) (φ : Phi) (w : World) (argsR : List Value) (hs : Sm W0 φ h w) (hl : LR φ args argsR) : CallOK Tryz.prog W0 φ h w 138 argsR.toArray (flushN hd args h) := by
  unfold flushN
  split
  · rename_i a
    obtain ⟨x, rfl, hx⟩ := hl.one
    obtain ⟨B1, ha, hx⟩ := hx.p
    refine devG_ok (Q := CallOK Tryz.prog W0 φ h w _ _) hs ha (fun _ => trivial) fun b B2 n calls lit fuse dead s s2 c c2 xs hdi => ?_
    rw [hs.flat hdi.ga ha (by decide)] at hx
    subst hx
    cases hdd : deadB lit fuse dead with
    | true => trivial
    | false =>
      show CallOK Tryz.prog W0 φ h w _ _ (Option.rec (motive := fun _ => Ox) _ _ (mapU flG c2))
      cases hm : mapU flG c2 with
      | none => trivial
      | some r =>
        obtain ⟨ss, hok, rfl, hr⟩ := mapU_ok flG_ok flL hdi.rb hm
        show CallOK Tryz.prog W0 φ h w _ _ (.val (.i .i64 (.ofNat 0)) ⟨h.next, PT.set b (some (.row 119 s2 (getU r c2))) (PT.set a (some (.row 116 s (devC b n (inc calls) lit (ite' lit (Int.sub fuse 1) fuse) dead))) h.mem)⟩)
        generalize getU r c2 = c' at hr ⊢
        have hn := secs_n hok rfl hdi.len
        have hdv := hdi.dv hok rfl
        have hdead : ({ l := ss, calls := calls, lit := lit, fuse := fuse, dead := dead } : Dv).isDead = false := by
          unfold deadB at hdd
          simp only [Bool.or_eq_false_iff] at hdd
          simp only [Dv.isDead, Bool.or_eq_false_iff]
          refine ⟨hdd.1, ?_⟩
          cases lit with
          | false => rfl
          | true =>
            have h2 : keyEq fuse 0 = false := hdd.2
            have : ¬ fuse = 0 := fun e => by rw [(keyEq_iff _ _).2 e] at h2; cases h2
            simp [this]
        have hm0 := hs.mem2 hdi.ne hdi.ga hdi.gb ha hdi.hb hdi.ha hdi.hbl
        have key := flush_ok W0 [] [others W0 w [B1.b, B2.b]] B1.k B2.k B1.b B2.b { l := ss, calls := calls, lit := lit, fuse := fuse, dead := dead } hdv hdead
        subst hn
        refine (key w hm0).mono ?_
        rintro e w' ⟨L', hm', rfl, rfl⟩
        have g1 := hm'.get (b := B1.b) .here
        have g2 := hm'.get (b := B2.b) .in1
        have hap := hs.flat hdi.gb hdi.hb (by decide)
        have hfs : Dv.flush { l := ss, calls := calls, lit := lit, fuse := fuse, dead := dead } = { l := ss.map Sec.flush, calls := inc calls, lit := lit, fuse := ite' lit (Int.sub fuse 1) fuse, dead := dead } := by
          cases lit <;> rfl
        rw [hfs] at g1 g2
        have g1' : Holds w' B1.b (.row [.slice (some ⟨B2.b, 0, none⟩) ss.length ss.length, .int .i64 (inc calls), .bool lit, .int .i64 (ite' lit (Int.sub fuse 1) fuse), .bool dead] 116 B1.k) := by
          have := g1.2
          simpa [devRow] using this
        have hsec : secsV (ss.map Sec.flush) = ss.flatMap fun s => Sec.cs s.flush := by simp [secsV, List.flatMap_map]
        obtain ⟨k1, k2⟩ := hs.put2 (o1' := .row 116 s (devC b ss.length (inc calls) lit (ite' lit (Int.sub fuse 1) fuse) dead)) (o2' := .row 119 s2 c') hdi.ne hdi.ga hdi.gb ha hdi.hb hm' (fun p hp => by simp [hp])
          ⟨⟨hdi.sa, .inr (hs.flat hdi.ga ha (by decide))⟩, [], _, (hs.flat hdi.ga ha (by decide)).symm, g1', devC_ok hdi.hb hap _ _ _ _ _, ints_okv _ _ _ _ _ _⟩
          ⟨⟨hdi.sb, .inr hap⟩, [], _, hap.symm, g2.2, by show TR φ c' (secsV (ss.map Sec.flush)); rw [hsec]; exact hr, secs_okv⟩
        exact ⟨φ, _, rfl, k2, k1, VR.i' _ _ _⟩
  · trivial

/-! ### A crash that keeps nothing -/
def crashN (_hd : Hd) (args : List V) (h : Hp) : Ox := match args with
  | [.p a 0, .ns] => devG a h fun b n calls lit fuse dead s s2 c2 => Option.rec (motive := fun _ => Ox) (.no 743) (fun r =>
      .val (.p h.next.succ 0) ⟨h.next.succ.succ, PT.set h.next.succ (some (.row 116 1 (devC h.next n 0 false 0 false))) (PT.set h.next (some (.row 119 129 (getU r c2))) h.mem)⟩) (mapU crG c2)
  | _ => .no 744
theorem crash_nil (ss : List Sec) : ∀ j, (crashFrom [] ss j).map both = ss.map fun s => both s.lasts := by
  induction ss with
  | nil => intro j; rfl
  | cons s ss ih => intro j; simp [crashFrom, kept, ih]
theorem crashN_ok (hd : Hd) (args : List V) (h : Hp) (φ : Phi) (w : World) (argsR : List Value) (hs : Sm W0 φ h w) (hl : LR φ args argsR) : CallOK Tryz.prog W0 φ h w 24 argsR.toArray (crashN hd args h) := by
  unfold crashN
  split
  · rename_i a
    obtain ⟨x, z, rfl, hx, hz⟩ := hl.two
    unfold VR at hz
    subst hz
    obtain ⟨B1, ha, hx⟩ := hx.p
    refine devG_ok (Q := CallOK Tryz.prog W0 φ h w _ _) hs ha (fun _ => trivial) fun b B2 n calls lit fuse dead s s2 c c2 xs hdi => ?_
    rw [hs.flat hdi.ga ha (by decide)] at hx
    subst hx
    show CallOK Tryz.prog W0 φ h w _ _ (Option.rec (motive := fun _ => Ox) _ _ (mapU crG c2))
    cases hm : mapU crG c2 with
    | none => trivial
    | some r =>
      obtain ⟨ss, hok, rfl, hr⟩ := mapU_ok crG_ok crL hdi.rb hm
      show CallOK Tryz.prog W0 φ h w _ _ (.val (.p h.next.succ 0) ⟨h.next.succ.succ, PT.set h.next.succ (some (.row 116 1 (devC h.next n 0 false 0 false))) (PT.set h.next (some (.row 119 129 (getU r c2))) h.mem)⟩)
      generalize getU r c2 = c' at hr ⊢
      have hn := secs_n hok rfl hdi.len
      have hdv := hdi.dv hok rfl
      have hm0 := hs.mem2 hdi.ne hdi.ga hdi.gb ha hdi.hb hdi.ha hdi.hbl
      have key := crash_spec W0 [] [others W0 w [B1.b, B2.b]] B1.k B2.k B1.b B2.b { l := ss, calls := calls, lit := lit, fuse := fuse, dead := dead } hdv (by show 0 < ss.length; have := hdi.lo; omega) none 0 [] (Nat.le_refl _) (fun _ => Rd.nil)
      subst hn
      refine (key w hm0).mono ?_
      rintro e w' ⟨L', hm', bd2, bl2, rfl, rfl⟩
      have g1 := hm'.get (b := bd2) .here
      have g2 := hm'.get (b := bl2) .in1
      have g3 := hm'.get (b := B1.b) (.next .here)
      have g4 := hm'.get (b := B2.b) (.next .in1)
      have hb0 := hs.flat hdi.gb hdi.hb (by decide)
      have ha0 := hs.flat hdi.ga ha (by decide)
      -- all named blocks as they were
      obtain ⟨hs1, _⟩ := hs.recast (w' := w') hm'.below h.mem (fun _ _ => rfl) fun a' o' B ha' hg => by
        refine ⟨⟨_, hg⟩, ?_⟩
        by_cases e1 : a' = a
        · subst e1
          rw [ha] at ha'; cases ha'
          rw [hdi.ga] at hg; cases hg
          exact ⟨⟨hdi.sa, .inr ha0⟩, [], _, ha0.symm, g3.2, hdi.ra, ints_okv _ _ _ _ _ _⟩
        · by_cases e2 : a' = b
          · subst e2
            rw [hdi.hb] at ha'; cases ha'
            rw [hdi.gb] at hg; cases hg
            exact ⟨⟨hdi.sb, .inr hb0⟩, [], _, hb0.symm, g4.2, hdi.rb, hdi.okb⟩
          · have k1 := hs.apart a' a o' _ B B1 hg hdi.ga ha' ha e1
            have k2 := hs.apart a' b o' _ B B2 hg hdi.gb ha' hdi.hb e2
            obtain ⟨_, k3⟩ := hs.own a' o' B hg ha'
            exact k3.mono (Ext.refl φ) (same_of hs.below hm' (S := [B1.b, B2.b]) (fun p hp => by simp [hp]) k3.lt (by simp [k1, k2]))
      -- the new ones are apart from them
      have hnd := hm'.nodup
      simp only [devSeg, List.nil_append, List.flatten_cons, List.flatten_nil, List.append_nil, List.cons_append, List.map_cons, List.nodup_cons] at hnd
      obtain ⟨n1, n2, n3, n4, _⟩ := hnd
      have hap : ∀ a' o' B, PT.get a' h.mem = some o' → φ a' = some B → B.b ≠ bd2 ∧ B.b ≠ bl2 := fun a' o' B hg ha' => by
        obtain ⟨z1, k3⟩ := hs.own a' o' B hg ha'
        have hlt := k3.lt
        have hin : B.b = B1.b ∨ B.b = B2.b ∨ B.b ∈ (others W0 w [B1.b, B2.b]).map (·.1) := by
          by_cases e1 : B.b = B1.b
          · exact .inl e1
          · by_cases e2 : B.b = B2.b
            · exact .inr (.inl e2)
            · exact .inr (.inr (List.mem_map.2 ⟨(B.b, .obj w.heap[B.b]), mem_others.2 ⟨_, by simp [hlt], z1, by simp [e1, e2], rfl⟩, rfl⟩))
        refine ⟨fun e => n1 ?_, fun e => n2 ?_⟩
        · rw [← e]
          simp only [List.mem_cons]
          rcases hin with h | h | h
          · exact .inr (.inl h)
          · exact .inr (.inr (.inl h))
          · exact .inr (.inr (.inr (by simpa using h)))
        · rw [← e]
          simp only [List.mem_cons]
          rcases hin with h | h | h
          · exact .inl h
          · exact .inr (.inl h)
          · exact .inr (.inr (by simpa using h))
      have hne : bd2 ≠ bl2 := fun e => n1 (by rw [e]; simp)
      have hcr : (Dv.crash { l := ss, calls := calls, lit := lit, fuse := fuse, dead := dead } []) = { l := ss.map fun s => both s.lasts, calls := 0, lit := false, fuse := 0, dead := false } := by
        simp only [Dv.crash, newDv, crash_nil]
      rw [hcr] at g1 g2
      have hsec : secsV (ss.map fun s => both s.lasts) = ss.flatMap fun s => Sec.cs (both s.lasts) := by simp [secsV, List.flatMap_map]
      obtain ⟨hs2, st2⟩ := hs1.name1 (b := bl2) (k := ss.length * 129) (s := 129) (o := .row 119 129 c') hm' (so := .row (secsV (ss.map fun s => both s.lasts)) 119 (ss.length * 129)) (by rw [hcr]; simp)
        (fun a' o' B hg ha' => ⟨(hap a' o' B hg ha').2, rfl⟩) ⟨⟨rfl, .inr rfl⟩, [], _, rfl, g2.2, by show TR _ c' (secsV (ss.map fun s => both s.lasts)); rw [hsec]; exact hr.mono (named_ext (hs.fresh _ (Nat.le_refl _)).1), secs_okv⟩
      have hnx := hs.fresh h.next (Nat.le_refl _)
      have g1' : Holds w' bd2 (.row [.slice (some ⟨bl2, 0, none⟩) ss.length ss.length, .int .i64 0, .bool false, .int .i64 0, .bool false] 116 5) := by
        have := g1.2
        simpa [devRow] using this
      obtain ⟨hs3, st3⟩ := hs2.name1 (b := bd2) (k := 5) (s := 1) (o := .row 116 1 (devC h.next ss.length 0 false 0 false)) hm' (so := .row [.slice (some ⟨bl2, 0, none⟩) ss.length ss.length, .int .i64 0, .bool false, .int .i64 0, .bool false] 116 5) (by rw [hcr]; simp)
        (fun a' o' B hg ha' => by
          refine ⟨?_, rfl⟩
          by_cases e : a' = h.next
          · subst e
            rw [named_same] at ha'; cases ha'
            exact fun e => hne e.symm
          · rw [named_ne e] at ha'
            change PT.get a' (PT.set h.next _ h.mem) = some o' at hg
            rw [PT.get_set, if_neg e] at hg
            exact (hap a' o' B hg ha').1)
        ⟨⟨rfl, .inr rfl⟩, [], _, rfl, g1', (devC_ok (named_same _ _ _) rfl _ _ _ _ _).mono (named_ext (hs2.fresh _ (Nat.le_refl _)).1), ints_okv _ _ _ _ _ _⟩
      exact ⟨_, _, rfl, st2.trans st3, hs3, VR.p' (named_same _ _ _) rfl⟩
  · trivial
end
end
end Go.Proofs.YtokggoikffcijaaGreatDoor
