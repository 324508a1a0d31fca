/-
  What the evaluator is told of the program: functions without a body, the log's zero value.
-/
import Derived.Test.YtokggoikffcijaaGreatDoorBig
import Derived.Test.YtokggoikffcijaaGreatDoorK4
namespace Go.Proofs.YtokggoikffcijaaGreatDoor
open Go Go.SL Go.RowKit Go.Ev
noncomputable section
theorem body64 : Bodyless Tryz.prog 175 Extern.MathFloatBits.float64bits := ⟨⟨_, (by kernel_rfl : Tryz.prog.funcs[175]? = some Tryz.f175), by kernel_rfl, by kernel_rfl, by kernel_rfl, by kernel_rfl⟩⟩
theorem from64 : Bodyless Tryz.prog 312 Extern.MathFloatBits.float64frombits := ⟨⟨_, (by kernel_rfl : Tryz.prog.funcs[312]? = some Tryz.f312), by kernel_rfl, by kernel_rfl, by kernel_rfl, by kernel_rfl⟩⟩
theorem cmpStr : Bodyless Tryz.prog 422 Extern.BytealgCompare.compare := ⟨⟨_, (by kernel_rfl : Tryz.prog.funcs[422]? = some Tryz.f422), by kernel_rfl, by kernel_rfl, by kernel_rfl, by kernel_rfl⟩⟩
def zone (x : V) (t : T V) : T V := .nd 1 (.z 1 x) t
def zlog : T V := zone .np (zone .np (.nd 65536 (.z 65536 (.i .u8 (.ofNat 0))) (zone (.i .i64 (.ofNat 0)) (zone (.i .i64 (.ofNat 0)) (zone (.i .i64 (.ofNat 0)) (zone .ns (.z 1 (.b false))))))))
theorem zone_ok {φ : Phi} {x : V} {v : Value} {t : T V} {l : List Value} (hv : VR φ x v) (ht : TR φ t l) : TR φ (zone x t) (v :: l) := by
  unfold zone TR
  refine ⟨[v], l, rfl, rfl, ?_, ht⟩
  unfold TR
  exact ⟨rfl, fun y hy => by rw [List.mem_singleton] at hy; exact hy ▸ hv⟩
theorem zlog_ok : Zero (.agg zb43.toArray) zlog := by
  have hc : (Value.agg zb43.toArray).cells.toList = zb43 := rfl
  refine ⟨fun φ => ?_, fun x hx => ?_⟩
  · rw [hc, zb43_eq]
    refine zone_ok (by unfold VR; rfl) (zone_ok (by unfold VR; rfl) ?_)
    unfold TR
    refine ⟨List.replicate 65536 (.int .u8 0), _, rfl, List.length_replicate, ?_, zone_ok (VR.i' _ _ _) (zone_ok (VR.i' _ _ _) (zone_ok (VR.i' _ _ _) (zone_ok (by unfold VR; rfl) ?_)))⟩
    · unfold TR
      exact ⟨List.length_replicate, fun y hy => by rw [List.eq_of_mem_replicate hy]; exact VR.i' _ _ _⟩
    · unfold TR
      exact ⟨rfl, fun y hy => by rw [List.mem_singleton] at hy; exact hy ▸ VR.b' _ _⟩
  · rw [hc, zb43_eq] at hx
    simp only [List.mem_append, List.mem_cons, List.not_mem_nil, or_false, List.mem_replicate] at hx
    rcases hx with (rfl | rfl) | ⟨_, rfl⟩ | rfl | rfl | rfl | rfl | rfl <;> rfl
def envT : Ev.Env := ⟨fun f => ite' (Nat.beq f 175) (some b64) (ite' (Nat.beq f 312) (some f64) (ite' (Nat.beq f 422) (some cmpS) none)), fun t => ite' (Nat.beq t 259) (some zlog) (ite' (Nat.beq t 258) (some zlog) none)⟩
theorem beq_case {α : Type} {x k : Nat} {a b c : α} (h : ite' (Nat.beq x k) a b = c) : (x = k ∧ a = c) ∨ b = c := by
  cases hb : Nat.beq x k with
  | true => rw [hb] at h; exact .inl ⟨Nat.eq_of_beq_eq_true hb, h⟩
  | false => rw [hb] at h; exact .inr h
theorem envT_ok : EnvOK Tryz.prog envT := by
  refine ⟨fun f g hf φ args argsR v hl hv => ?_, fun t zt s b z hz ht => ?_⟩
  · rcases beq_case hf with ⟨rfl, h⟩ | hf
    · cases h; exact b64_ok body64 φ args argsR v hl hv
    · rcases beq_case hf with ⟨rfl, h⟩ | hf
      · cases h; exact f64_ok from64 φ args argsR v hl hv
      · rcases beq_case hf with ⟨rfl, h⟩ | hf
        · cases h; exact cmpS_ok cmpStr φ args argsR v hl hv
        · cases hf
  · have hi := tyd_inf ht
    rcases beq_case hz with ⟨rfl, h⟩ | hz
    · cases h
      rw [hi.uniq I259]
      exact zlog_ok
    · rcases beq_case hz with ⟨rfl, h⟩ | hz
      · cases h
        rw [hi.uniq I258]
        exact zlog_ok
      · cases hz
end
end Go.Proofs.YtokggoikffcijaaGreatDoor
