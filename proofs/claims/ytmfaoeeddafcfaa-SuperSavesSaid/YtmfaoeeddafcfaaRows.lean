/-
  No cell of these rows narrows 'for every input' (looked for: loops, veiled, ifaces, maps, wideKeys, modest, calm, conditions, laid).
  DERIVED. THE GIVEN ROWS OF THIS SEAT. 4 by the template 'for every input the law returns true; each argument reads behind the call as it read before'; 0 by the template 'total and deterministic' (their statements: YtmfaoeeddafcfaaTotals.lean).
  GIVEN WITH THE SEED: the statements are not yours to turn. If you find one false, say at which input.
  Laid BY PROGRAM, IN A SANDBOX (cutbox-rows.mjs): the forced cells as the released guide's own fill.sh prints them over the translation 9f636cbde45a3ab8… (all of the seat's roots in one cut). By AI agents, Wed Nov 11 2026. No macro, syntax, notation, axiom, sorry.
-/
import Derived.Test.YtmfaoeeddafcfaaChecked
import GoSem.Claim
import GoSem.ClaimJoined
import GoSem.ClaimMapViews
import Derived.JoinedTies
import Derived.KernelRfl
namespace Go.Proofs.Ytmfaoeeddafcfaa
/- THE CELL 'sum', in the pinned program and in every row, IS THE sha256 OF THE DUMP (.gsa) THAT YtmfaoeeddafcfaaProg.lean LOADS. Nothing in Lean hashes anything: it is a label: what it is worth is what the hold of that sum in a sandbox is worth. -/
noncomputable def Try.pinned : Pinned := { name := "ytmfaoeeddafcfaa", sum := "9f636cbde45a3ab8e515ef6d27a794ff061642e2bbb05f84a846e051a6c84379", checked := Try.checked }
namespace Rows
def none {H : Type} : Left H := { results := [], args := [] }

/-- 'engrosslaw8.SuperNone': WHATEVER THE INPUT: true; the input reads as it did. -/
def superNoneSpec : ChangeSpec := { name := "superNone", fn := fun _ => fun
  | [] => { results := [.lit (.bool true)], args := [] }
  | _ => none }
def superNoneRow : OpenClaim := { program := "ytmfaoeeddafcfaa", sum := "9f636cbde45a3ab8e515ef6d27a794ff061642e2bbb05f84a846e051a6c84379", func := "engross/engrosslaw8.SuperNone", spec := "superNone", apart := false }
def SuperNoneSaid : Prop := superNoneRow.holds Try.pinned (OpenSpec.ofChange superNoneSpec)

/-- ITS FALSE NEIGHBOUR: 'it returns false'. Refute it at one input. -/
def superNoneWrong : ChangeSpec := { name := "superNone", fn := fun _ => fun
  | [] => { results := [.lit (.bool false)], args := [] }
  | _ => none }
def SuperNoneWrongFalsely : Prop := superNoneRow.holds Try.pinned (OpenSpec.ofChange superNoneWrong)

/-- 'engrosslaw8.SuperTwo': WHATEVER THE INPUT: true; the input reads as it did. -/
def superTwoSpec : ChangeSpec := { name := "superTwo", fn := fun _ => fun
  | [d1, d2, d3] => { results := [.lit (.bool true)], args := [d1, d2, d3] }
  | _ => none }
def superTwoRow : OpenClaim := { program := "ytmfaoeeddafcfaa", sum := "9f636cbde45a3ab8e515ef6d27a794ff061642e2bbb05f84a846e051a6c84379", func := "engross/engrosslaw8.SuperTwo", spec := "superTwo", apart := false }
def SuperTwoSaid : Prop := superTwoRow.holds Try.pinned (OpenSpec.ofChange superTwoSpec)

/-- ITS FALSE NEIGHBOUR: 'it returns false'. Refute it at one input. -/
def superTwoWrong : ChangeSpec := { name := "superTwo", fn := fun _ => fun
  | [d1, d2, d3] => { results := [.lit (.bool false)], args := [d1, d2, d3] }
  | _ => none }
def SuperTwoWrongFalsely : Prop := superTwoRow.holds Try.pinned (OpenSpec.ofChange superTwoWrong)

/-- 'engrosslaw8.SuperCrash': WHATEVER THE INPUT: true; the input reads as it did. -/
def superCrashSpec : ChangeSpec := { name := "superCrash", fn := fun _ => fun
  | [d1, d2, d3, d4, d5] => { results := [.lit (.bool true)], args := [d1, d2, d3, d4, d5] }
  | _ => none }
def superCrashRow : OpenClaim := { program := "ytmfaoeeddafcfaa", sum := "9f636cbde45a3ab8e515ef6d27a794ff061642e2bbb05f84a846e051a6c84379", func := "engross/engrosslaw8.SuperCrash", spec := "superCrash", apart := false }
def SuperCrashSaid : Prop := superCrashRow.holds Try.pinned (OpenSpec.ofChange superCrashSpec)

/-- ITS FALSE NEIGHBOUR: 'it returns false'. Refute it at one input. -/
def superCrashWrong : ChangeSpec := { name := "superCrash", fn := fun _ => fun
  | [d1, d2, d3, d4, d5] => { results := [.lit (.bool false)], args := [d1, d2, d3, d4, d5] }
  | _ => none }
def SuperCrashWrongFalsely : Prop := superCrashRow.holds Try.pinned (OpenSpec.ofChange superCrashWrong)

/-- 'engrosslaw8.SuperSaves': WHATEVER THE INPUT: true; the input reads as it did. -/
def superSavesSpec : ChangeSpec := { name := "superSaves", fn := fun _ => fun
  | [d1, d2, d3] => { results := [.lit (.bool true)], args := [d1, d2, d3] }
  | _ => none }
def superSavesRow : OpenClaim := { program := "ytmfaoeeddafcfaa", sum := "9f636cbde45a3ab8e515ef6d27a794ff061642e2bbb05f84a846e051a6c84379", func := "engross/engrosslaw8.SuperSaves", spec := "superSaves", apart := false }
def SuperSavesSaid : Prop := superSavesRow.holds Try.pinned (OpenSpec.ofChange superSavesSpec)

/-- ITS FALSE NEIGHBOUR: 'it returns false'. Refute it at one input. -/
def superSavesWrong : ChangeSpec := { name := "superSaves", fn := fun _ => fun
  | [d1, d2, d3] => { results := [.lit (.bool false)], args := [d1, d2, d3] }
  | _ => none }
def SuperSavesWrongFalsely : Prop := superSavesRow.holds Try.pinned (OpenSpec.ofChange superSavesWrong)

/- THE SECOND FORM. 'bulk': how many values and letters a reading holds, each counted each time it is reached (what is shared counts as often as it is met; a slice's spare places count too). A statement '..UptoSaid' is the law's where the arguments, and the package variables that the reading takes, are together of bulk at most 1048576: NARROWER than '..Said'. Prove '..Said' where nothing that the law and all that it calls make is longer than what came in: it says more and counts as full. Else prove '..UptoSaid'. A law counts once. -/
mutual
def uptoBulk {H : Type} : DataW H → Nat
  | .lit (.string bytes) => bytes.length + 1
  | .lit _ => 1
  | .nil => 1
  | .ptr d => uptoBulk d + 1
  | .slice elems spare => uptoBulkAll elems + uptoBulkAll spare + 1
  | .agg parts => uptoBulkAll parts + 1
  | .iface _ d => uptoBulk d + 1
  | .map entries => uptoBulkEntries entries + 1
  | .held _ => 1
def uptoBulkAll {H : Type} : List (DataW H) → Nat
  | [] => 0
  | d :: r => uptoBulk d + uptoBulkAll r
def uptoBulkEntries {H : Type} : List (Lit × DataW H) → Nat
  | [] => 0
  | x :: r => uptoBulkEntry x + uptoBulkEntries r
def uptoBulkEntry {H : Type} : Lit × DataW H → Nat
  | (.string bytes, d) => bytes.length + uptoBulk d + 1
  | (_, d) => uptoBulk d + 1
 end
def uptoSmall : (H : Type) → List (DataW H) → Bool := fun _ ds => decide (uptoBulkAll ds ≤ 1048576)
def OpenSpec.upto (s : _root_.Go.ChangeSpec) : _root_.Go.OpenSpec := { _root_.Go.OpenSpec.ofChange s with cond := some uptoSmall }

/-- 'engrosslaw8.SuperNone', WHERE WHAT IT READS IS OF BULK AT MOST 1048576: true; the input reads as it did. -/
def superNoneUptoRow : OpenClaim := { program := "ytmfaoeeddafcfaa", sum := "9f636cbde45a3ab8e515ef6d27a794ff061642e2bbb05f84a846e051a6c84379", func := "engross/engrosslaw8.SuperNone", spec := "superNone", apart := false, narrowed := true }
def SuperNoneUptoSaid : Prop := superNoneUptoRow.holds Try.pinned (OpenSpec.upto superNoneSpec)

/-- 'engrosslaw8.SuperTwo', WHERE WHAT IT READS IS OF BULK AT MOST 1048576: true; the input reads as it did. -/
def superTwoUptoRow : OpenClaim := { program := "ytmfaoeeddafcfaa", sum := "9f636cbde45a3ab8e515ef6d27a794ff061642e2bbb05f84a846e051a6c84379", func := "engross/engrosslaw8.SuperTwo", spec := "superTwo", apart := false, narrowed := true }
def SuperTwoUptoSaid : Prop := superTwoUptoRow.holds Try.pinned (OpenSpec.upto superTwoSpec)

/-- 'engrosslaw8.SuperCrash', WHERE WHAT IT READS IS OF BULK AT MOST 1048576: true; the input reads as it did. -/
def superCrashUptoRow : OpenClaim := { program := "ytmfaoeeddafcfaa", sum := "9f636cbde45a3ab8e515ef6d27a794ff061642e2bbb05f84a846e051a6c84379", func := "engross/engrosslaw8.SuperCrash", spec := "superCrash", apart := false, narrowed := true }
def SuperCrashUptoSaid : Prop := superCrashUptoRow.holds Try.pinned (OpenSpec.upto superCrashSpec)

/-- 'engrosslaw8.SuperSaves', WHERE WHAT IT READS IS OF BULK AT MOST 1048576: true; the input reads as it did. -/
def superSavesUptoRow : OpenClaim := { program := "ytmfaoeeddafcfaa", sum := "9f636cbde45a3ab8e515ef6d27a794ff061642e2bbb05f84a846e051a6c84379", func := "engross/engrosslaw8.SuperSaves", spec := "superSaves", apart := false, narrowed := true }
def SuperSavesUptoSaid : Prop := superSavesUptoRow.holds Try.pinned (OpenSpec.upto superSavesSpec)

end Rows
end Go.Proofs.Ytmfaoeeddafcfaa
