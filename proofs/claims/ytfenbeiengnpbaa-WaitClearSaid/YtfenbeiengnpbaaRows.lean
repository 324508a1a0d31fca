/-
  No cell of these rows narrows 'for every input' (looked for: loops, veiled, ifaces, maps, wideKeys, modest, calm, conditions, laid).
  DERIVED. THE GIVEN ROWS OF THIS SEAT. 5 by the template 'for every input the law returns true; each argument reads behind the call as it read before'; 0 by the template 'total and deterministic' (their statements: YtfenbeiengnpbaaTotals.lean).
  GIVEN WITH THE SEED: the statements are not yours to turn. If you find one false, say at which input.
  Laid BY PROGRAM, IN A SANDBOX (cutbox-rows.mjs): the forced cells as the released guide's own fill.sh prints them over the translation 7361cd834cb39474… (all of the seat's roots in one cut). By AI agents, Wed Nov 11 2026. No macro, syntax, notation, axiom, sorry.
-/
import Derived.Test.YtfenbeiengnpbaaChecked
import GoSem.Claim
import GoSem.ClaimJoined
import GoSem.ClaimMapViews
import Derived.JoinedTies
import Derived.KernelRfl
namespace Go.Proofs.Ytfenbeiengnpbaa
/- THE CELL 'sum', in the pinned program and in every row, IS THE sha256 OF THE DUMP (.gsa) THAT YtfenbeiengnpbaaProg.lean LOADS. Nothing in Lean hashes anything: it is a label: what it is worth is what the hold of that sum in a sandbox is worth. -/
noncomputable def Try.pinned : Pinned := { name := "ytfenbeiengnpbaa", sum := "7361cd834cb39474581800659cd30e44701caa66c67497525ba293edb25bb0ab", checked := Try.checked }
namespace Rows
def none {H : Type} : Left H := { results := [], args := [] }

/-- 'engrosslaw24.WaitAll': WHATEVER THE INPUT: true; the input reads as it did. -/
def waitAllSpec : ChangeSpec := { name := "waitAll", fn := fun _ => fun
  | [d] => { results := [.lit (.bool true)], args := [d] }
  | _ => none }
def waitAllRow : OpenClaim := { program := "ytfenbeiengnpbaa", sum := "7361cd834cb39474581800659cd30e44701caa66c67497525ba293edb25bb0ab", func := "engross/engrosslaw24.WaitAll", spec := "waitAll", unfollowed := true, recurses := true, apart := false }
def WaitAllSaid : Prop := waitAllRow.holds Try.pinned (OpenSpec.ofChange waitAllSpec)

/-- ITS FALSE NEIGHBOUR: 'it returns false'. Refute it at one input. -/
def waitAllWrong : ChangeSpec := { name := "waitAll", fn := fun _ => fun
  | [d] => { results := [.lit (.bool false)], args := [d] }
  | _ => none }
def WaitAllWrongFalsely : Prop := waitAllRow.holds Try.pinned (OpenSpec.ofChange waitAllWrong)

/-- 'engrosslaw24.WaitNever': WHATEVER THE INPUT: true; the input reads as it did. -/
def waitNeverSpec : ChangeSpec := { name := "waitNever", fn := fun _ => fun
  | [d] => { results := [.lit (.bool true)], args := [d] }
  | _ => none }
def waitNeverRow : OpenClaim := { program := "ytfenbeiengnpbaa", sum := "7361cd834cb39474581800659cd30e44701caa66c67497525ba293edb25bb0ab", func := "engross/engrosslaw24.WaitNever", spec := "waitNever", unfollowed := true, recurses := true, apart := false }
def WaitNeverSaid : Prop := waitNeverRow.holds Try.pinned (OpenSpec.ofChange waitNeverSpec)

/-- ITS FALSE NEIGHBOUR: 'it returns false'. Refute it at one input. -/
def waitNeverWrong : ChangeSpec := { name := "waitNever", fn := fun _ => fun
  | [d] => { results := [.lit (.bool false)], args := [d] }
  | _ => none }
def WaitNeverWrongFalsely : Prop := waitNeverRow.holds Try.pinned (OpenSpec.ofChange waitNeverWrong)

/-- 'engrosslaw24.WaitChain': WHATEVER THE INPUT: true; the input reads as it did. -/
def waitChainSpec : ChangeSpec := { name := "waitChain", fn := fun _ => fun
  | [d1, d2, d3] => { results := [.lit (.bool true)], args := [d1, d2, d3] }
  | _ => none }
def waitChainRow : OpenClaim := { program := "ytfenbeiengnpbaa", sum := "7361cd834cb39474581800659cd30e44701caa66c67497525ba293edb25bb0ab", func := "engross/engrosslaw24.WaitChain", spec := "waitChain", unfollowed := true, recurses := true, apart := false }
def WaitChainSaid : Prop := waitChainRow.holds Try.pinned (OpenSpec.ofChange waitChainSpec)

/-- ITS FALSE NEIGHBOUR: 'it returns false'. Refute it at one input. -/
def waitChainWrong : ChangeSpec := { name := "waitChain", fn := fun _ => fun
  | [d1, d2, d3] => { results := [.lit (.bool false)], args := [d1, d2, d3] }
  | _ => none }
def WaitChainWrongFalsely : Prop := waitChainRow.holds Try.pinned (OpenSpec.ofChange waitChainWrong)

/-- 'engrosslaw24.WaitNone': WHATEVER THE INPUT: true; the input reads as it did. -/
def waitNoneSpec : ChangeSpec := { name := "waitNone", fn := fun _ => fun
  | [] => { results := [.lit (.bool true)], args := [] }
  | _ => none }
def waitNoneRow : OpenClaim := { program := "ytfenbeiengnpbaa", sum := "7361cd834cb39474581800659cd30e44701caa66c67497525ba293edb25bb0ab", func := "engross/engrosslaw24.WaitNone", spec := "waitNone", unfollowed := true, recurses := true, apart := false }
def WaitNoneSaid : Prop := waitNoneRow.holds Try.pinned (OpenSpec.ofChange waitNoneSpec)

/-- ITS FALSE NEIGHBOUR: 'it returns false'. Refute it at one input. -/
def waitNoneWrong : ChangeSpec := { name := "waitNone", fn := fun _ => fun
  | [] => { results := [.lit (.bool false)], args := [] }
  | _ => none }
def WaitNoneWrongFalsely : Prop := waitNoneRow.holds Try.pinned (OpenSpec.ofChange waitNoneWrong)

/-- 'engrosslaw24.WaitClear': WHATEVER THE INPUT: true; the input reads as it did. -/
def waitClearSpec : ChangeSpec := { name := "waitClear", fn := fun _ => fun
  | [d1, d2] => { results := [.lit (.bool true)], args := [d1, d2] }
  | _ => none }
def waitClearRow : OpenClaim := { program := "ytfenbeiengnpbaa", sum := "7361cd834cb39474581800659cd30e44701caa66c67497525ba293edb25bb0ab", func := "engross/engrosslaw24.WaitClear", spec := "waitClear", unfollowed := true, recurses := true, apart := false }
def WaitClearSaid : Prop := waitClearRow.holds Try.pinned (OpenSpec.ofChange waitClearSpec)

/-- ITS FALSE NEIGHBOUR: 'it returns false'. Refute it at one input. -/
def waitClearWrong : ChangeSpec := { name := "waitClear", fn := fun _ => fun
  | [d1, d2] => { results := [.lit (.bool false)], args := [d1, d2] }
  | _ => none }
def WaitClearWrongFalsely : Prop := waitClearRow.holds Try.pinned (OpenSpec.ofChange waitClearWrong)

/- THE SECOND FORM. 'bulk': how many values and letters a reading holds, each counted each time it is reached (what is shared counts as often as it is met; a slice's spare places count too). A statement '..UptoSaid' is the law's where the arguments, and the package variables that the reading takes, are together of bulk at most 1048576: NARROWER than '..Said'. Prove '..Said' where nothing that the law and all that it calls make is longer than what came in: it says more and counts as full. Else prove '..UptoSaid'. A law counts once. -/
mutual
def uptoBulk {H : Type} : DataW H → Nat
  | .lit (.string bytes) => bytes.length + 1
  | .lit _ => 1
  | .nil => 1
  | .ptr d => uptoBulk d + 1
  | .slice elems spare => uptoBulkAll elems + uptoBulkAll spare + 1
  | .agg parts => uptoBulkAll parts + 1
  | .iface _ d => uptoBulk d + 1
  | .map entries => uptoBulkEntries entries + 1
  | .held _ => 1
def uptoBulkAll {H : Type} : List (DataW H) → Nat
  | [] => 0
  | d :: r => uptoBulk d + uptoBulkAll r
def uptoBulkEntries {H : Type} : List (Lit × DataW H) → Nat
  | [] => 0
  | x :: r => uptoBulkEntry x + uptoBulkEntries r
def uptoBulkEntry {H : Type} : Lit × DataW H → Nat
  | (.string bytes, d) => bytes.length + uptoBulk d + 1
  | (_, d) => uptoBulk d + 1
 end
def uptoSmall : (H : Type) → List (DataW H) → Bool := fun _ ds => decide (uptoBulkAll ds ≤ 1048576)
def OpenSpec.upto (s : _root_.Go.ChangeSpec) : _root_.Go.OpenSpec := { _root_.Go.OpenSpec.ofChange s with cond := some uptoSmall }

/-- 'engrosslaw24.WaitAll', WHERE WHAT IT READS IS OF BULK AT MOST 1048576: true; the input reads as it did. -/
def waitAllUptoRow : OpenClaim := { program := "ytfenbeiengnpbaa", sum := "7361cd834cb39474581800659cd30e44701caa66c67497525ba293edb25bb0ab", func := "engross/engrosslaw24.WaitAll", spec := "waitAll", unfollowed := true, recurses := true, apart := false, narrowed := true }
def WaitAllUptoSaid : Prop := waitAllUptoRow.holds Try.pinned (OpenSpec.upto waitAllSpec)

/-- 'engrosslaw24.WaitNever', WHERE WHAT IT READS IS OF BULK AT MOST 1048576: true; the input reads as it did. -/
def waitNeverUptoRow : OpenClaim := { program := "ytfenbeiengnpbaa", sum := "7361cd834cb39474581800659cd30e44701caa66c67497525ba293edb25bb0ab", func := "engross/engrosslaw24.WaitNever", spec := "waitNever", unfollowed := true, recurses := true, apart := false, narrowed := true }
def WaitNeverUptoSaid : Prop := waitNeverUptoRow.holds Try.pinned (OpenSpec.upto waitNeverSpec)

/-- 'engrosslaw24.WaitChain', WHERE WHAT IT READS IS OF BULK AT MOST 1048576: true; the input reads as it did. -/
def waitChainUptoRow : OpenClaim := { program := "ytfenbeiengnpbaa", sum := "7361cd834cb39474581800659cd30e44701caa66c67497525ba293edb25bb0ab", func := "engross/engrosslaw24.WaitChain", spec := "waitChain", unfollowed := true, recurses := true, apart := false, narrowed := true }
def WaitChainUptoSaid : Prop := waitChainUptoRow.holds Try.pinned (OpenSpec.upto waitChainSpec)

/-- 'engrosslaw24.WaitNone', WHERE WHAT IT READS IS OF BULK AT MOST 1048576: true; the input reads as it did. -/
def waitNoneUptoRow : OpenClaim := { program := "ytfenbeiengnpbaa", sum := "7361cd834cb39474581800659cd30e44701caa66c67497525ba293edb25bb0ab", func := "engross/engrosslaw24.WaitNone", spec := "waitNone", unfollowed := true, recurses := true, apart := false, narrowed := true }
def WaitNoneUptoSaid : Prop := waitNoneUptoRow.holds Try.pinned (OpenSpec.upto waitNoneSpec)

/-- 'engrosslaw24.WaitClear', WHERE WHAT IT READS IS OF BULK AT MOST 1048576: true; the input reads as it did. -/
def waitClearUptoRow : OpenClaim := { program := "ytfenbeiengnpbaa", sum := "7361cd834cb39474581800659cd30e44701caa66c67497525ba293edb25bb0ab", func := "engross/engrosslaw24.WaitClear", spec := "waitClear", unfollowed := true, recurses := true, apart := false, narrowed := true }
def WaitClearUptoSaid : Prop := waitClearUptoRow.holds Try.pinned (OpenSpec.upto waitClearSpec)

end Rows
end Go.Proofs.Ytfenbeiengnpbaa
