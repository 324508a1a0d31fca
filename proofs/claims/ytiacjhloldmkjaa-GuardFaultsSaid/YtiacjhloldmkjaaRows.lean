/-
  No cell of these rows narrows 'for every input' (looked for: loops, veiled, ifaces, maps, wideKeys, modest, calm, conditions, laid).
  DERIVED. THE GIVEN ROWS OF THIS SEAT. 7 by the template 'for every input the law returns true; each argument reads behind the call as it read before'; 0 by the template 'total and deterministic' (their statements: YtiacjhloldmkjaaTotals.lean).
  GIVEN WITH THE SEED: the statements are not yours to turn. If you find one false, say at which input.
  Laid BY PROGRAM, IN A SANDBOX (cutbox-rows.mjs): the forced cells as the released guide's own fill.sh prints them over the translation cecf78078d294312… (all of the seat's roots in one cut). By AI agents, Wed Nov 11 2026. No macro, syntax, notation, axiom, sorry.
-/
import Derived.Test.YtiacjhloldmkjaaChecked
import GoSem.Claim
import GoSem.ClaimJoined
import GoSem.ClaimMapViews
import Derived.JoinedTies
import Derived.KernelRfl
namespace Go.Proofs.Ytiacjhloldmkjaa
/- THE CELL 'sum', in the pinned program and in every row, IS THE sha256 OF THE DUMP (.gsa) THAT YtiacjhloldmkjaaProg.lean LOADS. Nothing in Lean hashes anything: it is a label: what it is worth is what the hold of that sum in a sandbox is worth. -/
noncomputable def Try.pinned : Pinned := { name := "ytiacjhloldmkjaa", sum := "cecf78078d29431279c1b3b9a8ab8fd22d3cf7004b39ceae2670dd65f2582246", checked := Try.checked }
namespace Rows
def none {H : Type} : Left H := { results := [], args := [] }

/-- 'engrosslaw6.GuardFaults': WHATEVER THE INPUT: true; the input reads as it did. -/
def guardFaultsSpec : ChangeSpec := { name := "guardFaults", fn := fun _ => fun
  | [d1, d2, d3, d4, d5] => { results := [.lit (.bool true)], args := [d1, d2, d3, d4, d5] }
  | _ => none }
def guardFaultsRow : OpenClaim := { program := "ytiacjhloldmkjaa", sum := "cecf78078d29431279c1b3b9a8ab8fd22d3cf7004b39ceae2670dd65f2582246", func := "engross/engrosslaw6.GuardFaults", spec := "guardFaults", unfollowed := true, recurses := true, apart := false }
def GuardFaultsSaid : Prop := guardFaultsRow.holds Try.pinned (OpenSpec.ofChange guardFaultsSpec)

/-- ITS FALSE NEIGHBOUR: 'it returns false'. Refute it at one input. -/
def guardFaultsWrong : ChangeSpec := { name := "guardFaults", fn := fun _ => fun
  | [d1, d2, d3, d4, d5] => { results := [.lit (.bool false)], args := [d1, d2, d3, d4, d5] }
  | _ => none }
def GuardFaultsWrongFalsely : Prop := guardFaultsRow.holds Try.pinned (OpenSpec.ofChange guardFaultsWrong)

/-- 'engrosslaw6.GuardOthers': WHATEVER THE INPUT: true; the input reads as it did. -/
def guardOthersSpec : ChangeSpec := { name := "guardOthers", fn := fun _ => fun
  | [d1, d2, d3] => { results := [.lit (.bool true)], args := [d1, d2, d3] }
  | _ => none }
def guardOthersRow : OpenClaim := { program := "ytiacjhloldmkjaa", sum := "cecf78078d29431279c1b3b9a8ab8fd22d3cf7004b39ceae2670dd65f2582246", func := "engross/engrosslaw6.GuardOthers", spec := "guardOthers", unfollowed := true, recurses := true, apart := false }
def GuardOthersSaid : Prop := guardOthersRow.holds Try.pinned (OpenSpec.ofChange guardOthersSpec)

/-- ITS FALSE NEIGHBOUR: 'it returns false'. Refute it at one input. -/
def guardOthersWrong : ChangeSpec := { name := "guardOthers", fn := fun _ => fun
  | [d1, d2, d3] => { results := [.lit (.bool false)], args := [d1, d2, d3] }
  | _ => none }
def GuardOthersWrongFalsely : Prop := guardOthersRow.holds Try.pinned (OpenSpec.ofChange guardOthersWrong)

/-- 'engrosslaw6.GuardWithin': WHATEVER THE INPUT: true; the input reads as it did. -/
def guardWithinSpec : ChangeSpec := { name := "guardWithin", fn := fun _ => fun
  | [d1, d2, d3] => { results := [.lit (.bool true)], args := [d1, d2, d3] }
  | _ => none }
def guardWithinRow : OpenClaim := { program := "ytiacjhloldmkjaa", sum := "cecf78078d29431279c1b3b9a8ab8fd22d3cf7004b39ceae2670dd65f2582246", func := "engross/engrosslaw6.GuardWithin", spec := "guardWithin", unfollowed := true, recurses := true, apart := false }
def GuardWithinSaid : Prop := guardWithinRow.holds Try.pinned (OpenSpec.ofChange guardWithinSpec)

/-- ITS FALSE NEIGHBOUR: 'it returns false'. Refute it at one input. -/
def guardWithinWrong : ChangeSpec := { name := "guardWithin", fn := fun _ => fun
  | [d1, d2, d3] => { results := [.lit (.bool false)], args := [d1, d2, d3] }
  | _ => none }
def GuardWithinWrongFalsely : Prop := guardWithinRow.holds Try.pinned (OpenSpec.ofChange guardWithinWrong)

/-- 'engrosslaw6.GuardNil': WHATEVER THE INPUT: true; the input reads as it did. -/
def guardNilSpec : ChangeSpec := { name := "guardNil", fn := fun _ => fun
  | [d1, d2] => { results := [.lit (.bool true)], args := [d1, d2] }
  | _ => none }
def guardNilRow : OpenClaim := { program := "ytiacjhloldmkjaa", sum := "cecf78078d29431279c1b3b9a8ab8fd22d3cf7004b39ceae2670dd65f2582246", func := "engross/engrosslaw6.GuardNil", spec := "guardNil", unfollowed := true, recurses := true, apart := false }
def GuardNilSaid : Prop := guardNilRow.holds Try.pinned (OpenSpec.ofChange guardNilSpec)

/-- ITS FALSE NEIGHBOUR: 'it returns false'. Refute it at one input. -/
def guardNilWrong : ChangeSpec := { name := "guardNil", fn := fun _ => fun
  | [d1, d2] => { results := [.lit (.bool false)], args := [d1, d2] }
  | _ => none }
def GuardNilWrongFalsely : Prop := guardNilRow.holds Try.pinned (OpenSpec.ofChange guardNilWrong)

/-- 'engrosslaw6.GuardDefers': WHATEVER THE INPUT: true; the input reads as it did. -/
def guardDefersSpec : ChangeSpec := { name := "guardDefers", fn := fun _ => fun
  | [d1, d2, d3] => { results := [.lit (.bool true)], args := [d1, d2, d3] }
  | _ => none }
def guardDefersRow : OpenClaim := { program := "ytiacjhloldmkjaa", sum := "cecf78078d29431279c1b3b9a8ab8fd22d3cf7004b39ceae2670dd65f2582246", func := "engross/engrosslaw6.GuardDefers", spec := "guardDefers", unfollowed := true, recurses := true, apart := false }
def GuardDefersSaid : Prop := guardDefersRow.holds Try.pinned (OpenSpec.ofChange guardDefersSpec)

/-- ITS FALSE NEIGHBOUR: 'it returns false'. Refute it at one input. -/
def guardDefersWrong : ChangeSpec := { name := "guardDefers", fn := fun _ => fun
  | [d1, d2, d3] => { results := [.lit (.bool false)], args := [d1, d2, d3] }
  | _ => none }
def GuardDefersWrongFalsely : Prop := guardDefersRow.holds Try.pinned (OpenSpec.ofChange guardDefersWrong)

/-- 'engrosslaw6.GuardAgain': WHATEVER THE INPUT: true; the input reads as it did. -/
def guardAgainSpec : ChangeSpec := { name := "guardAgain", fn := fun _ => fun
  | [d] => { results := [.lit (.bool true)], args := [d] }
  | _ => none }
def guardAgainRow : OpenClaim := { program := "ytiacjhloldmkjaa", sum := "cecf78078d29431279c1b3b9a8ab8fd22d3cf7004b39ceae2670dd65f2582246", func := "engross/engrosslaw6.GuardAgain", spec := "guardAgain", unfollowed := true, recurses := true, apart := false }
def GuardAgainSaid : Prop := guardAgainRow.holds Try.pinned (OpenSpec.ofChange guardAgainSpec)

/-- ITS FALSE NEIGHBOUR: 'it returns false'. Refute it at one input. -/
def guardAgainWrong : ChangeSpec := { name := "guardAgain", fn := fun _ => fun
  | [d] => { results := [.lit (.bool false)], args := [d] }
  | _ => none }
def GuardAgainWrongFalsely : Prop := guardAgainRow.holds Try.pinned (OpenSpec.ofChange guardAgainWrong)

/-- 'engrosslaw6.GuardIndex': WHATEVER THE INPUT: true; the input reads as it did. -/
def guardIndexSpec : ChangeSpec := { name := "guardIndex", fn := fun _ => fun
  | [d1, d2] => { results := [.lit (.bool true)], args := [d1, d2] }
  | _ => none }
def guardIndexRow : OpenClaim := { program := "ytiacjhloldmkjaa", sum := "cecf78078d29431279c1b3b9a8ab8fd22d3cf7004b39ceae2670dd65f2582246", func := "engross/engrosslaw6.GuardIndex", spec := "guardIndex", unfollowed := true, recurses := true, apart := false }
def GuardIndexSaid : Prop := guardIndexRow.holds Try.pinned (OpenSpec.ofChange guardIndexSpec)

/-- ITS FALSE NEIGHBOUR: 'it returns false'. Refute it at one input. -/
def guardIndexWrong : ChangeSpec := { name := "guardIndex", fn := fun _ => fun
  | [d1, d2] => { results := [.lit (.bool false)], args := [d1, d2] }
  | _ => none }
def GuardIndexWrongFalsely : Prop := guardIndexRow.holds Try.pinned (OpenSpec.ofChange guardIndexWrong)

/- THE SECOND FORM. 'bulk': how many values and letters a reading holds, each counted each time it is reached (what is shared counts as often as it is met; a slice's spare places count too). A statement '..UptoSaid' is the law's where the arguments, and the package variables that the reading takes, are together of bulk at most 1048576: NARROWER than '..Said'. Prove '..Said' where nothing that the law and all that it calls make is longer than what came in: it says more and counts as full. Else prove '..UptoSaid'. A law counts once. -/
mutual
def uptoBulk {H : Type} : DataW H → Nat
  | .lit (.string bytes) => bytes.length + 1
  | .lit _ => 1
  | .nil => 1
  | .ptr d => uptoBulk d + 1
  | .slice elems spare => uptoBulkAll elems + uptoBulkAll spare + 1
  | .agg parts => uptoBulkAll parts + 1
  | .iface _ d => uptoBulk d + 1
  | .map entries => uptoBulkEntries entries + 1
  | .held _ => 1
def uptoBulkAll {H : Type} : List (DataW H) → Nat
  | [] => 0
  | d :: r => uptoBulk d + uptoBulkAll r
def uptoBulkEntries {H : Type} : List (Lit × DataW H) → Nat
  | [] => 0
  | x :: r => uptoBulkEntry x + uptoBulkEntries r
def uptoBulkEntry {H : Type} : Lit × DataW H → Nat
  | (.string bytes, d) => bytes.length + uptoBulk d + 1
  | (_, d) => uptoBulk d + 1
 end
def uptoSmall : (H : Type) → List (DataW H) → Bool := fun _ ds => decide (uptoBulkAll ds ≤ 1048576)
def OpenSpec.upto (s : _root_.Go.ChangeSpec) : _root_.Go.OpenSpec := { _root_.Go.OpenSpec.ofChange s with cond := some uptoSmall }

/-- 'engrosslaw6.GuardFaults', WHERE WHAT IT READS IS OF BULK AT MOST 1048576: true; the input reads as it did. -/
def guardFaultsUptoRow : OpenClaim := { program := "ytiacjhloldmkjaa", sum := "cecf78078d29431279c1b3b9a8ab8fd22d3cf7004b39ceae2670dd65f2582246", func := "engross/engrosslaw6.GuardFaults", spec := "guardFaults", unfollowed := true, recurses := true, apart := false, narrowed := true }
def GuardFaultsUptoSaid : Prop := guardFaultsUptoRow.holds Try.pinned (OpenSpec.upto guardFaultsSpec)

/-- 'engrosslaw6.GuardOthers', WHERE WHAT IT READS IS OF BULK AT MOST 1048576: true; the input reads as it did. -/
def guardOthersUptoRow : OpenClaim := { program := "ytiacjhloldmkjaa", sum := "cecf78078d29431279c1b3b9a8ab8fd22d3cf7004b39ceae2670dd65f2582246", func := "engross/engrosslaw6.GuardOthers", spec := "guardOthers", unfollowed := true, recurses := true, apart := false, narrowed := true }
def GuardOthersUptoSaid : Prop := guardOthersUptoRow.holds Try.pinned (OpenSpec.upto guardOthersSpec)

/-- 'engrosslaw6.GuardWithin', WHERE WHAT IT READS IS OF BULK AT MOST 1048576: true; the input reads as it did. -/
def guardWithinUptoRow : OpenClaim := { program := "ytiacjhloldmkjaa", sum := "cecf78078d29431279c1b3b9a8ab8fd22d3cf7004b39ceae2670dd65f2582246", func := "engross/engrosslaw6.GuardWithin", spec := "guardWithin", unfollowed := true, recurses := true, apart := false, narrowed := true }
def GuardWithinUptoSaid : Prop := guardWithinUptoRow.holds Try.pinned (OpenSpec.upto guardWithinSpec)

/-- 'engrosslaw6.GuardNil', WHERE WHAT IT READS IS OF BULK AT MOST 1048576: true; the input reads as it did. -/
def guardNilUptoRow : OpenClaim := { program := "ytiacjhloldmkjaa", sum := "cecf78078d29431279c1b3b9a8ab8fd22d3cf7004b39ceae2670dd65f2582246", func := "engross/engrosslaw6.GuardNil", spec := "guardNil", unfollowed := true, recurses := true, apart := false, narrowed := true }
def GuardNilUptoSaid : Prop := guardNilUptoRow.holds Try.pinned (OpenSpec.upto guardNilSpec)

/-- 'engrosslaw6.GuardDefers', WHERE WHAT IT READS IS OF BULK AT MOST 1048576: true; the input reads as it did. -/
def guardDefersUptoRow : OpenClaim := { program := "ytiacjhloldmkjaa", sum := "cecf78078d29431279c1b3b9a8ab8fd22d3cf7004b39ceae2670dd65f2582246", func := "engross/engrosslaw6.GuardDefers", spec := "guardDefers", unfollowed := true, recurses := true, apart := false, narrowed := true }
def GuardDefersUptoSaid : Prop := guardDefersUptoRow.holds Try.pinned (OpenSpec.upto guardDefersSpec)

/-- 'engrosslaw6.GuardAgain', WHERE WHAT IT READS IS OF BULK AT MOST 1048576: true; the input reads as it did. -/
def guardAgainUptoRow : OpenClaim := { program := "ytiacjhloldmkjaa", sum := "cecf78078d29431279c1b3b9a8ab8fd22d3cf7004b39ceae2670dd65f2582246", func := "engross/engrosslaw6.GuardAgain", spec := "guardAgain", unfollowed := true, recurses := true, apart := false, narrowed := true }
def GuardAgainUptoSaid : Prop := guardAgainUptoRow.holds Try.pinned (OpenSpec.upto guardAgainSpec)

/-- 'engrosslaw6.GuardIndex', WHERE WHAT IT READS IS OF BULK AT MOST 1048576: true; the input reads as it did. -/
def guardIndexUptoRow : OpenClaim := { program := "ytiacjhloldmkjaa", sum := "cecf78078d29431279c1b3b9a8ab8fd22d3cf7004b39ceae2670dd65f2582246", func := "engross/engrosslaw6.GuardIndex", spec := "guardIndex", unfollowed := true, recurses := true, apart := false, narrowed := true }
def GuardIndexUptoSaid : Prop := guardIndexUptoRow.holds Try.pinned (OpenSpec.upto guardIndexSpec)

end Rows
end Go.Proofs.Ytiacjhloldmkjaa
