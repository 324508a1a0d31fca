/-
  No cell of these rows narrows 'for every input' (looked for: loops, veiled, ifaces, maps, wideKeys, modest, calm, conditions, laid).
  DERIVED. THE GIVEN ROWS OF THIS SEAT. 6 by the template 'for every input the law returns true; each argument reads behind the call as it read before'; 0 by the template 'total and deterministic' (their statements: YtgfdghhojnmaoaaTotals.lean).
  GIVEN WITH THE SEED: the statements are not yours to turn. If you find one false, say at which input.
  Laid BY PROGRAM, IN A SANDBOX (cutbox-rows.mjs): the forced cells as the released guide's own fill.sh prints them over the translation 654664d0e0dd426a… (all of the seat's roots in one cut). By AI agents, Wed Nov 11 2026. No macro, syntax, notation, axiom, sorry.
-/
import Derived.Test.YtgfdghhojnmaoaaChecked
import GoSem.Claim
import GoSem.ClaimJoined
import GoSem.ClaimMapViews
import Derived.JoinedTies
import Derived.KernelRfl
namespace Go.Proofs.Ytgfdghhojnmaoaa
/- THE CELL 'sum', in the pinned program and in every row, IS THE sha256 OF THE DUMP (.gsa) THAT YtgfdghhojnmaoaaProg.lean LOADS. Nothing in Lean hashes anything: it is a label: what it is worth is what the hold of that sum in a sandbox is worth. -/
noncomputable def Try.pinned : Pinned := { name := "ytgfdghhojnmaoaa", sum := "654664d0e0dd426a1a16f77dc06a71c40f9fbef125f8c7947e919e960cd7b19a", checked := Try.checked }
namespace Rows
def none {H : Type} : Left H := { results := [], args := [] }

/-- 'engrosslaw12.SheetAll': WHATEVER THE INPUT: true; the input reads as it did. -/
def sheetAllSpec : ChangeSpec := { name := "sheetAll", fn := fun _ => fun
  | [d1, d2, d3] => { results := [.lit (.bool true)], args := [d1, d2, d3] }
  | _ => none }
def sheetAllRow : OpenClaim := { program := "ytgfdghhojnmaoaa", sum := "654664d0e0dd426a1a16f77dc06a71c40f9fbef125f8c7947e919e960cd7b19a", func := "engross/engrosslaw12.SheetAll", spec := "sheetAll", unfollowed := true, recurses := true, apart := false }
def SheetAllSaid : Prop := sheetAllRow.holds Try.pinned (OpenSpec.ofChange sheetAllSpec)

/-- ITS FALSE NEIGHBOUR: 'it returns false'. Refute it at one input. -/
def sheetAllWrong : ChangeSpec := { name := "sheetAll", fn := fun _ => fun
  | [d1, d2, d3] => { results := [.lit (.bool false)], args := [d1, d2, d3] }
  | _ => none }
def SheetAllWrongFalsely : Prop := sheetAllRow.holds Try.pinned (OpenSpec.ofChange sheetAllWrong)

/-- 'engrosslaw12.SheetOwn': WHATEVER THE INPUT: true; the input reads as it did. -/
def sheetOwnSpec : ChangeSpec := { name := "sheetOwn", fn := fun _ => fun
  | [d] => { results := [.lit (.bool true)], args := [d] }
  | _ => none }
def sheetOwnRow : OpenClaim := { program := "ytgfdghhojnmaoaa", sum := "654664d0e0dd426a1a16f77dc06a71c40f9fbef125f8c7947e919e960cd7b19a", func := "engross/engrosslaw12.SheetOwn", spec := "sheetOwn", unfollowed := true, recurses := true, apart := false }
def SheetOwnSaid : Prop := sheetOwnRow.holds Try.pinned (OpenSpec.ofChange sheetOwnSpec)

/-- ITS FALSE NEIGHBOUR: 'it returns false'. Refute it at one input. -/
def sheetOwnWrong : ChangeSpec := { name := "sheetOwn", fn := fun _ => fun
  | [d] => { results := [.lit (.bool false)], args := [d] }
  | _ => none }
def SheetOwnWrongFalsely : Prop := sheetOwnRow.holds Try.pinned (OpenSpec.ofChange sheetOwnWrong)

/-- 'engrosslaw12.SheetReads': WHATEVER THE INPUT: true; the input reads as it did. -/
def sheetReadsSpec : ChangeSpec := { name := "sheetReads", fn := fun _ => fun
  | [d1, d2] => { results := [.lit (.bool true)], args := [d1, d2] }
  | _ => none }
def sheetReadsRow : OpenClaim := { program := "ytgfdghhojnmaoaa", sum := "654664d0e0dd426a1a16f77dc06a71c40f9fbef125f8c7947e919e960cd7b19a", func := "engross/engrosslaw12.SheetReads", spec := "sheetReads", unfollowed := true, recurses := true, apart := false }
def SheetReadsSaid : Prop := sheetReadsRow.holds Try.pinned (OpenSpec.ofChange sheetReadsSpec)

/-- ITS FALSE NEIGHBOUR: 'it returns false'. Refute it at one input. -/
def sheetReadsWrong : ChangeSpec := { name := "sheetReads", fn := fun _ => fun
  | [d1, d2] => { results := [.lit (.bool false)], args := [d1, d2] }
  | _ => none }
def SheetReadsWrongFalsely : Prop := sheetReadsRow.holds Try.pinned (OpenSpec.ofChange sheetReadsWrong)

/-- 'engrosslaw12.SheetBack': WHATEVER THE INPUT: true; the input reads as it did. -/
def sheetBackSpec : ChangeSpec := { name := "sheetBack", fn := fun _ => fun
  | [d1, d2, d3] => { results := [.lit (.bool true)], args := [d1, d2, d3] }
  | _ => none }
def sheetBackRow : OpenClaim := { program := "ytgfdghhojnmaoaa", sum := "654664d0e0dd426a1a16f77dc06a71c40f9fbef125f8c7947e919e960cd7b19a", func := "engross/engrosslaw12.SheetBack", spec := "sheetBack", unfollowed := true, recurses := true, apart := false }
def SheetBackSaid : Prop := sheetBackRow.holds Try.pinned (OpenSpec.ofChange sheetBackSpec)

/-- ITS FALSE NEIGHBOUR: 'it returns false'. Refute it at one input. -/
def sheetBackWrong : ChangeSpec := { name := "sheetBack", fn := fun _ => fun
  | [d1, d2, d3] => { results := [.lit (.bool false)], args := [d1, d2, d3] }
  | _ => none }
def SheetBackWrongFalsely : Prop := sheetBackRow.holds Try.pinned (OpenSpec.ofChange sheetBackWrong)

/-- 'engrosslaw12.SheetTwo': WHATEVER THE INPUT: true; the input reads as it did. -/
def sheetTwoSpec : ChangeSpec := { name := "sheetTwo", fn := fun _ => fun
  | [d1, d2] => { results := [.lit (.bool true)], args := [d1, d2] }
  | _ => none }
def sheetTwoRow : OpenClaim := { program := "ytgfdghhojnmaoaa", sum := "654664d0e0dd426a1a16f77dc06a71c40f9fbef125f8c7947e919e960cd7b19a", func := "engross/engrosslaw12.SheetTwo", spec := "sheetTwo", unfollowed := true, recurses := true, apart := false }
def SheetTwoSaid : Prop := sheetTwoRow.holds Try.pinned (OpenSpec.ofChange sheetTwoSpec)

/-- ITS FALSE NEIGHBOUR: 'it returns false'. Refute it at one input. -/
def sheetTwoWrong : ChangeSpec := { name := "sheetTwo", fn := fun _ => fun
  | [d1, d2] => { results := [.lit (.bool false)], args := [d1, d2] }
  | _ => none }
def SheetTwoWrongFalsely : Prop := sheetTwoRow.holds Try.pinned (OpenSpec.ofChange sheetTwoWrong)

/-- 'engrosslaw12.SheetMust': WHATEVER THE INPUT: true; the input reads as it did. -/
def sheetMustSpec : ChangeSpec := { name := "sheetMust", fn := fun _ => fun
  | [d1, d2, d3] => { results := [.lit (.bool true)], args := [d1, d2, d3] }
  | _ => none }
def sheetMustRow : OpenClaim := { program := "ytgfdghhojnmaoaa", sum := "654664d0e0dd426a1a16f77dc06a71c40f9fbef125f8c7947e919e960cd7b19a", func := "engross/engrosslaw12.SheetMust", spec := "sheetMust", unfollowed := true, recurses := true, apart := false }
def SheetMustSaid : Prop := sheetMustRow.holds Try.pinned (OpenSpec.ofChange sheetMustSpec)

/-- ITS FALSE NEIGHBOUR: 'it returns false'. Refute it at one input. -/
def sheetMustWrong : ChangeSpec := { name := "sheetMust", fn := fun _ => fun
  | [d1, d2, d3] => { results := [.lit (.bool false)], args := [d1, d2, d3] }
  | _ => none }
def SheetMustWrongFalsely : Prop := sheetMustRow.holds Try.pinned (OpenSpec.ofChange sheetMustWrong)

/- THE SECOND FORM. 'bulk': how many values and letters a reading holds, each counted each time it is reached (what is shared counts as often as it is met; a slice's spare places count too). A statement '..UptoSaid' is the law's where the arguments, and the package variables that the reading takes, are together of bulk at most 1048576: NARROWER than '..Said'. Prove '..Said' where nothing that the law and all that it calls make is longer than what came in: it says more and counts as full. Else prove '..UptoSaid'. A law counts once. -/
mutual
def uptoBulk {H : Type} : DataW H → Nat
  | .lit (.string bytes) => bytes.length + 1
  | .lit _ => 1
  | .nil => 1
  | .ptr d => uptoBulk d + 1
  | .slice elems spare => uptoBulkAll elems + uptoBulkAll spare + 1
  | .agg parts => uptoBulkAll parts + 1
  | .iface _ d => uptoBulk d + 1
  | .map entries => uptoBulkEntries entries + 1
  | .held _ => 1
def uptoBulkAll {H : Type} : List (DataW H) → Nat
  | [] => 0
  | d :: r => uptoBulk d + uptoBulkAll r
def uptoBulkEntries {H : Type} : List (Lit × DataW H) → Nat
  | [] => 0
  | x :: r => uptoBulkEntry x + uptoBulkEntries r
def uptoBulkEntry {H : Type} : Lit × DataW H → Nat
  | (.string bytes, d) => bytes.length + uptoBulk d + 1
  | (_, d) => uptoBulk d + 1
 end
def uptoSmall : (H : Type) → List (DataW H) → Bool := fun _ ds => decide (uptoBulkAll ds ≤ 1048576)
def OpenSpec.upto (s : _root_.Go.ChangeSpec) : _root_.Go.OpenSpec := { _root_.Go.OpenSpec.ofChange s with cond := some uptoSmall }

/-- 'engrosslaw12.SheetAll', WHERE WHAT IT READS IS OF BULK AT MOST 1048576: true; the input reads as it did. -/
def sheetAllUptoRow : OpenClaim := { program := "ytgfdghhojnmaoaa", sum := "654664d0e0dd426a1a16f77dc06a71c40f9fbef125f8c7947e919e960cd7b19a", func := "engross/engrosslaw12.SheetAll", spec := "sheetAll", unfollowed := true, recurses := true, apart := false, narrowed := true }
def SheetAllUptoSaid : Prop := sheetAllUptoRow.holds Try.pinned (OpenSpec.upto sheetAllSpec)

/-- 'engrosslaw12.SheetOwn', WHERE WHAT IT READS IS OF BULK AT MOST 1048576: true; the input reads as it did. -/
def sheetOwnUptoRow : OpenClaim := { program := "ytgfdghhojnmaoaa", sum := "654664d0e0dd426a1a16f77dc06a71c40f9fbef125f8c7947e919e960cd7b19a", func := "engross/engrosslaw12.SheetOwn", spec := "sheetOwn", unfollowed := true, recurses := true, apart := false, narrowed := true }
def SheetOwnUptoSaid : Prop := sheetOwnUptoRow.holds Try.pinned (OpenSpec.upto sheetOwnSpec)

/-- 'engrosslaw12.SheetReads', WHERE WHAT IT READS IS OF BULK AT MOST 1048576: true; the input reads as it did. -/
def sheetReadsUptoRow : OpenClaim := { program := "ytgfdghhojnmaoaa", sum := "654664d0e0dd426a1a16f77dc06a71c40f9fbef125f8c7947e919e960cd7b19a", func := "engross/engrosslaw12.SheetReads", spec := "sheetReads", unfollowed := true, recurses := true, apart := false, narrowed := true }
def SheetReadsUptoSaid : Prop := sheetReadsUptoRow.holds Try.pinned (OpenSpec.upto sheetReadsSpec)

/-- 'engrosslaw12.SheetBack', WHERE WHAT IT READS IS OF BULK AT MOST 1048576: true; the input reads as it did. -/
def sheetBackUptoRow : OpenClaim := { program := "ytgfdghhojnmaoaa", sum := "654664d0e0dd426a1a16f77dc06a71c40f9fbef125f8c7947e919e960cd7b19a", func := "engross/engrosslaw12.SheetBack", spec := "sheetBack", unfollowed := true, recurses := true, apart := false, narrowed := true }
def SheetBackUptoSaid : Prop := sheetBackUptoRow.holds Try.pinned (OpenSpec.upto sheetBackSpec)

/-- 'engrosslaw12.SheetTwo', WHERE WHAT IT READS IS OF BULK AT MOST 1048576: true; the input reads as it did. -/
def sheetTwoUptoRow : OpenClaim := { program := "ytgfdghhojnmaoaa", sum := "654664d0e0dd426a1a16f77dc06a71c40f9fbef125f8c7947e919e960cd7b19a", func := "engross/engrosslaw12.SheetTwo", spec := "sheetTwo", unfollowed := true, recurses := true, apart := false, narrowed := true }
def SheetTwoUptoSaid : Prop := sheetTwoUptoRow.holds Try.pinned (OpenSpec.upto sheetTwoSpec)

/-- 'engrosslaw12.SheetMust', WHERE WHAT IT READS IS OF BULK AT MOST 1048576: true; the input reads as it did. -/
def sheetMustUptoRow : OpenClaim := { program := "ytgfdghhojnmaoaa", sum := "654664d0e0dd426a1a16f77dc06a71c40f9fbef125f8c7947e919e960cd7b19a", func := "engross/engrosslaw12.SheetMust", spec := "sheetMust", unfollowed := true, recurses := true, apart := false, narrowed := true }
def SheetMustUptoSaid : Prop := sheetMustUptoRow.holds Try.pinned (OpenSpec.upto sheetMustSpec)

end Rows
end Go.Proofs.Ytgfdghhojnmaoaa
