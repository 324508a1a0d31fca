/-
  No cell of these rows narrows 'for every input' (looked for: loops, veiled, ifaces, maps, wideKeys, modest, calm, conditions, laid).
  DERIVED. THE GIVEN ROWS OF THIS SEAT. 5 by the template 'for every input the law returns true; each argument reads behind the call as it read before'; 0 by the template 'total and deterministic' (their statements: YtomiidlbfcfpiaaTotals.lean).
  GIVEN WITH THE SEED: the statements are not yours to turn. If you find one false, say at which input.
  Laid BY PROGRAM, IN A SANDBOX (cutbox-rows.mjs): the forced cells as the released guide's own fill.sh prints them over the translation ddb792dce3f7c050… (all of the seat's roots in one cut). By AI agents, Wed Nov 11 2026. No macro, syntax, notation, axiom, sorry.
-/
import Derived.Test.YtomiidlbfcfpiaaChecked
import GoSem.Claim
import GoSem.ClaimJoined
import GoSem.ClaimMapViews
import Derived.JoinedTies
import Derived.KernelRfl
namespace Go.Proofs.Ytomiidlbfcfpiaa
/- THE CELL 'sum', in the pinned program and in every row, IS THE sha256 OF THE DUMP (.gsa) THAT YtomiidlbfcfpiaaProg.lean LOADS. Nothing in Lean hashes anything: it is a label: what it is worth is what the hold of that sum in a sandbox is worth. -/
noncomputable def Try.pinned : Pinned := { name := "ytomiidlbfcfpiaa", sum := "ddb792dce3f7c0502c789496a909aafd6068abeb89f4e23d970de2948e63d588", checked := Try.checked }
namespace Rows
def none {H : Type} : Left H := { results := [], args := [] }

/-- 'engrosslaw25.TxnAll': WHATEVER THE INPUT: true; the input reads as it did. -/
def txnAllSpec : ChangeSpec := { name := "txnAll", fn := fun _ => fun
  | [d] => { results := [.lit (.bool true)], args := [d] }
  | _ => none }
def txnAllRow : OpenClaim := { program := "ytomiidlbfcfpiaa", sum := "ddb792dce3f7c0502c789496a909aafd6068abeb89f4e23d970de2948e63d588", func := "engross/engrosslaw25.TxnAll", spec := "txnAll", unfollowed := true, recurses := true, apart := false }
def TxnAllSaid : Prop := txnAllRow.holds Try.pinned (OpenSpec.ofChange txnAllSpec)

/-- ITS FALSE NEIGHBOUR: 'it returns false'. Refute it at one input. -/
def txnAllWrong : ChangeSpec := { name := "txnAll", fn := fun _ => fun
  | [d] => { results := [.lit (.bool false)], args := [d] }
  | _ => none }
def TxnAllWrongFalsely : Prop := txnAllRow.holds Try.pinned (OpenSpec.ofChange txnAllWrong)

/-- 'engrosslaw25.TxnMany': WHATEVER THE INPUT: true; the input reads as it did. -/
def txnManySpec : ChangeSpec := { name := "txnMany", fn := fun _ => fun
  | [d1, d2] => { results := [.lit (.bool true)], args := [d1, d2] }
  | _ => none }
def txnManyRow : OpenClaim := { program := "ytomiidlbfcfpiaa", sum := "ddb792dce3f7c0502c789496a909aafd6068abeb89f4e23d970de2948e63d588", func := "engross/engrosslaw25.TxnMany", spec := "txnMany", unfollowed := true, recurses := true, apart := false }
def TxnManySaid : Prop := txnManyRow.holds Try.pinned (OpenSpec.ofChange txnManySpec)

/-- ITS FALSE NEIGHBOUR: 'it returns false'. Refute it at one input. -/
def txnManyWrong : ChangeSpec := { name := "txnMany", fn := fun _ => fun
  | [d1, d2] => { results := [.lit (.bool false)], args := [d1, d2] }
  | _ => none }
def TxnManyWrongFalsely : Prop := txnManyRow.holds Try.pinned (OpenSpec.ofChange txnManyWrong)

/-- 'engrosslaw25.TxnFree': WHATEVER THE INPUT: true; the input reads as it did. -/
def txnFreeSpec : ChangeSpec := { name := "txnFree", fn := fun _ => fun
  | [d1, d2] => { results := [.lit (.bool true)], args := [d1, d2] }
  | _ => none }
def txnFreeRow : OpenClaim := { program := "ytomiidlbfcfpiaa", sum := "ddb792dce3f7c0502c789496a909aafd6068abeb89f4e23d970de2948e63d588", func := "engross/engrosslaw25.TxnFree", spec := "txnFree", unfollowed := true, recurses := true, apart := false }
def TxnFreeSaid : Prop := txnFreeRow.holds Try.pinned (OpenSpec.ofChange txnFreeSpec)

/-- ITS FALSE NEIGHBOUR: 'it returns false'. Refute it at one input. -/
def txnFreeWrong : ChangeSpec := { name := "txnFree", fn := fun _ => fun
  | [d1, d2] => { results := [.lit (.bool false)], args := [d1, d2] }
  | _ => none }
def TxnFreeWrongFalsely : Prop := txnFreeRow.holds Try.pinned (OpenSpec.ofChange txnFreeWrong)

/-- 'engrosslaw25.TxnNone': WHATEVER THE INPUT: true; the input reads as it did. -/
def txnNoneSpec : ChangeSpec := { name := "txnNone", fn := fun _ => fun
  | [] => { results := [.lit (.bool true)], args := [] }
  | _ => none }
def txnNoneRow : OpenClaim := { program := "ytomiidlbfcfpiaa", sum := "ddb792dce3f7c0502c789496a909aafd6068abeb89f4e23d970de2948e63d588", func := "engross/engrosslaw25.TxnNone", spec := "txnNone", unfollowed := true, recurses := true, apart := false }
def TxnNoneSaid : Prop := txnNoneRow.holds Try.pinned (OpenSpec.ofChange txnNoneSpec)

/-- ITS FALSE NEIGHBOUR: 'it returns false'. Refute it at one input. -/
def txnNoneWrong : ChangeSpec := { name := "txnNone", fn := fun _ => fun
  | [] => { results := [.lit (.bool false)], args := [] }
  | _ => none }
def TxnNoneWrongFalsely : Prop := txnNoneRow.holds Try.pinned (OpenSpec.ofChange txnNoneWrong)

/-- 'engrosslaw25.TxnRing': WHATEVER THE INPUT: true; the input reads as it did. -/
def txnRingSpec : ChangeSpec := { name := "txnRing", fn := fun _ => fun
  | [d1, d2] => { results := [.lit (.bool true)], args := [d1, d2] }
  | _ => none }
def txnRingRow : OpenClaim := { program := "ytomiidlbfcfpiaa", sum := "ddb792dce3f7c0502c789496a909aafd6068abeb89f4e23d970de2948e63d588", func := "engross/engrosslaw25.TxnRing", spec := "txnRing", unfollowed := true, recurses := true, apart := false }
def TxnRingSaid : Prop := txnRingRow.holds Try.pinned (OpenSpec.ofChange txnRingSpec)

/-- ITS FALSE NEIGHBOUR: 'it returns false'. Refute it at one input. -/
def txnRingWrong : ChangeSpec := { name := "txnRing", fn := fun _ => fun
  | [d1, d2] => { results := [.lit (.bool false)], args := [d1, d2] }
  | _ => none }
def TxnRingWrongFalsely : Prop := txnRingRow.holds Try.pinned (OpenSpec.ofChange txnRingWrong)

/- THE SECOND FORM. 'bulk': how many values and letters a reading holds, each counted each time it is reached (what is shared counts as often as it is met; a slice's spare places count too). A statement '..UptoSaid' is the law's where the arguments, and the package variables that the reading takes, are together of bulk at most 1048576: NARROWER than '..Said'. Prove '..Said' where nothing that the law and all that it calls make is longer than what came in: it says more and counts as full. Else prove '..UptoSaid'. A law counts once. -/
mutual
def uptoBulk {H : Type} : DataW H → Nat
  | .lit (.string bytes) => bytes.length + 1
  | .lit _ => 1
  | .nil => 1
  | .ptr d => uptoBulk d + 1
  | .slice elems spare => uptoBulkAll elems + uptoBulkAll spare + 1
  | .agg parts => uptoBulkAll parts + 1
  | .iface _ d => uptoBulk d + 1
  | .map entries => uptoBulkEntries entries + 1
  | .held _ => 1
def uptoBulkAll {H : Type} : List (DataW H) → Nat
  | [] => 0
  | d :: r => uptoBulk d + uptoBulkAll r
def uptoBulkEntries {H : Type} : List (Lit × DataW H) → Nat
  | [] => 0
  | x :: r => uptoBulkEntry x + uptoBulkEntries r
def uptoBulkEntry {H : Type} : Lit × DataW H → Nat
  | (.string bytes, d) => bytes.length + uptoBulk d + 1
  | (_, d) => uptoBulk d + 1
 end
def uptoSmall : (H : Type) → List (DataW H) → Bool := fun _ ds => decide (uptoBulkAll ds ≤ 1048576)
def OpenSpec.upto (s : _root_.Go.ChangeSpec) : _root_.Go.OpenSpec := { _root_.Go.OpenSpec.ofChange s with cond := some uptoSmall }

/-- 'engrosslaw25.TxnAll', WHERE WHAT IT READS IS OF BULK AT MOST 1048576: true; the input reads as it did. -/
def txnAllUptoRow : OpenClaim := { program := "ytomiidlbfcfpiaa", sum := "ddb792dce3f7c0502c789496a909aafd6068abeb89f4e23d970de2948e63d588", func := "engross/engrosslaw25.TxnAll", spec := "txnAll", unfollowed := true, recurses := true, apart := false, narrowed := true }
def TxnAllUptoSaid : Prop := txnAllUptoRow.holds Try.pinned (OpenSpec.upto txnAllSpec)

/-- 'engrosslaw25.TxnMany', WHERE WHAT IT READS IS OF BULK AT MOST 1048576: true; the input reads as it did. -/
def txnManyUptoRow : OpenClaim := { program := "ytomiidlbfcfpiaa", sum := "ddb792dce3f7c0502c789496a909aafd6068abeb89f4e23d970de2948e63d588", func := "engross/engrosslaw25.TxnMany", spec := "txnMany", unfollowed := true, recurses := true, apart := false, narrowed := true }
def TxnManyUptoSaid : Prop := txnManyUptoRow.holds Try.pinned (OpenSpec.upto txnManySpec)

/-- 'engrosslaw25.TxnFree', WHERE WHAT IT READS IS OF BULK AT MOST 1048576: true; the input reads as it did. -/
def txnFreeUptoRow : OpenClaim := { program := "ytomiidlbfcfpiaa", sum := "ddb792dce3f7c0502c789496a909aafd6068abeb89f4e23d970de2948e63d588", func := "engross/engrosslaw25.TxnFree", spec := "txnFree", unfollowed := true, recurses := true, apart := false, narrowed := true }
def TxnFreeUptoSaid : Prop := txnFreeUptoRow.holds Try.pinned (OpenSpec.upto txnFreeSpec)

/-- 'engrosslaw25.TxnNone', WHERE WHAT IT READS IS OF BULK AT MOST 1048576: true; the input reads as it did. -/
def txnNoneUptoRow : OpenClaim := { program := "ytomiidlbfcfpiaa", sum := "ddb792dce3f7c0502c789496a909aafd6068abeb89f4e23d970de2948e63d588", func := "engross/engrosslaw25.TxnNone", spec := "txnNone", unfollowed := true, recurses := true, apart := false, narrowed := true }
def TxnNoneUptoSaid : Prop := txnNoneUptoRow.holds Try.pinned (OpenSpec.upto txnNoneSpec)

/-- 'engrosslaw25.TxnRing', WHERE WHAT IT READS IS OF BULK AT MOST 1048576: true; the input reads as it did. -/
def txnRingUptoRow : OpenClaim := { program := "ytomiidlbfcfpiaa", sum := "ddb792dce3f7c0502c789496a909aafd6068abeb89f4e23d970de2948e63d588", func := "engross/engrosslaw25.TxnRing", spec := "txnRing", unfollowed := true, recurses := true, apart := false, narrowed := true }
def TxnRingUptoSaid : Prop := txnRingUptoRow.holds Try.pinned (OpenSpec.upto txnRingSpec)

end Rows
end Go.Proofs.Ytomiidlbfcfpiaa
