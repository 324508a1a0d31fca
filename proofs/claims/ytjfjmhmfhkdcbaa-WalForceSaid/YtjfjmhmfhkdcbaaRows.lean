/-
  No cell of these rows narrows 'for every input' (looked for: loops, veiled, ifaces, maps, wideKeys, modest, calm, conditions, laid).
  DERIVED. THE GIVEN ROWS OF THIS SEAT. 6 by the template 'for every input the law returns true; each argument reads behind the call as it read before'; 0 by the template 'total and deterministic' (their statements: YtjfjmhmfhkdcbaaTotals.lean).
  GIVEN WITH THE SEED: the statements are not yours to turn. If you find one false, say at which input.
  Laid BY PROGRAM, IN A SANDBOX (cutbox-rows.mjs): the forced cells as the released guide's own fill.sh prints them over the translation daf554447285a60e… (all of the seat's roots in one cut). By AI agents, Wed Nov 11 2026. No macro, syntax, notation, axiom, sorry.
-/
import Derived.Test.YtjfjmhmfhkdcbaaChecked
import GoSem.Claim
import GoSem.ClaimJoined
import GoSem.ClaimMapViews
import Derived.JoinedTies
import Derived.KernelRfl
namespace Go.Proofs.Ytjfjmhmfhkdcbaa
/- THE CELL 'sum', in the pinned program and in every row, IS THE sha256 OF THE DUMP (.gsa) THAT YtjfjmhmfhkdcbaaProg.lean LOADS. Nothing in Lean hashes anything: it is a label: what it is worth is what the hold of that sum in a sandbox is worth. -/
noncomputable def Try.pinned : Pinned := { name := "ytjfjmhmfhkdcbaa", sum := "daf554447285a60ebddb47e4367d284d0084c1e5364d399a1661cae0ea6f5401", checked := Try.checked }
namespace Rows
def none {H : Type} : Left H := { results := [], args := [] }

/-- 'engrosslaw17.WalFull': WHATEVER THE INPUT: true; the input reads as it did. -/
def walFullSpec : ChangeSpec := { name := "walFull", fn := fun _ => fun
  | [d1, d2] => { results := [.lit (.bool true)], args := [d1, d2] }
  | _ => none }
def walFullRow : OpenClaim := { program := "ytjfjmhmfhkdcbaa", sum := "daf554447285a60ebddb47e4367d284d0084c1e5364d399a1661cae0ea6f5401", func := "engross/engrosslaw17.WalFull", spec := "walFull", apart := false }
def WalFullSaid : Prop := walFullRow.holds Try.pinned (OpenSpec.ofChange walFullSpec)

/-- ITS FALSE NEIGHBOUR: 'it returns false'. Refute it at one input. -/
def walFullWrong : ChangeSpec := { name := "walFull", fn := fun _ => fun
  | [d1, d2] => { results := [.lit (.bool false)], args := [d1, d2] }
  | _ => none }
def WalFullWrongFalsely : Prop := walFullRow.holds Try.pinned (OpenSpec.ofChange walFullWrong)

/-- 'engrosslaw17.WalNone': WHATEVER THE INPUT: true; the input reads as it did. -/
def walNoneSpec : ChangeSpec := { name := "walNone", fn := fun _ => fun
  | [] => { results := [.lit (.bool true)], args := [] }
  | _ => none }
def walNoneRow : OpenClaim := { program := "ytjfjmhmfhkdcbaa", sum := "daf554447285a60ebddb47e4367d284d0084c1e5364d399a1661cae0ea6f5401", func := "engross/engrosslaw17.WalNone", spec := "walNone", apart := false }
def WalNoneSaid : Prop := walNoneRow.holds Try.pinned (OpenSpec.ofChange walNoneSpec)

/-- ITS FALSE NEIGHBOUR: 'it returns false'. Refute it at one input. -/
def walNoneWrong : ChangeSpec := { name := "walNone", fn := fun _ => fun
  | [] => { results := [.lit (.bool false)], args := [] }
  | _ => none }
def WalNoneWrongFalsely : Prop := walNoneRow.holds Try.pinned (OpenSpec.ofChange walNoneWrong)

/-- 'engrosslaw17.WalPlaces': WHATEVER THE INPUT: true; the input reads as it did. -/
def walPlacesSpec : ChangeSpec := { name := "walPlaces", fn := fun _ => fun
  | [d1, d2, d3] => { results := [.lit (.bool true)], args := [d1, d2, d3] }
  | _ => none }
def walPlacesRow : OpenClaim := { program := "ytjfjmhmfhkdcbaa", sum := "daf554447285a60ebddb47e4367d284d0084c1e5364d399a1661cae0ea6f5401", func := "engross/engrosslaw17.WalPlaces", spec := "walPlaces", apart := false }
def WalPlacesSaid : Prop := walPlacesRow.holds Try.pinned (OpenSpec.ofChange walPlacesSpec)

/-- ITS FALSE NEIGHBOUR: 'it returns false'. Refute it at one input. -/
def walPlacesWrong : ChangeSpec := { name := "walPlaces", fn := fun _ => fun
  | [d1, d2, d3] => { results := [.lit (.bool false)], args := [d1, d2, d3] }
  | _ => none }
def WalPlacesWrongFalsely : Prop := walPlacesRow.holds Try.pinned (OpenSpec.ofChange walPlacesWrong)

/-- 'engrosslaw17.WalRing': WHATEVER THE INPUT: true; the input reads as it did. -/
def walRingSpec : ChangeSpec := { name := "walRing", fn := fun _ => fun
  | [d1, d2] => { results := [.lit (.bool true)], args := [d1, d2] }
  | _ => none }
def walRingRow : OpenClaim := { program := "ytjfjmhmfhkdcbaa", sum := "daf554447285a60ebddb47e4367d284d0084c1e5364d399a1661cae0ea6f5401", func := "engross/engrosslaw17.WalRing", spec := "walRing", apart := false }
def WalRingSaid : Prop := walRingRow.holds Try.pinned (OpenSpec.ofChange walRingSpec)

/-- ITS FALSE NEIGHBOUR: 'it returns false'. Refute it at one input. -/
def walRingWrong : ChangeSpec := { name := "walRing", fn := fun _ => fun
  | [d1, d2] => { results := [.lit (.bool false)], args := [d1, d2] }
  | _ => none }
def WalRingWrongFalsely : Prop := walRingRow.holds Try.pinned (OpenSpec.ofChange walRingWrong)

/-- 'engrosslaw17.WalForce': WHATEVER THE INPUT: true; the input reads as it did. -/
def walForceSpec : ChangeSpec := { name := "walForce", fn := fun _ => fun
  | [d1, d2, d3] => { results := [.lit (.bool true)], args := [d1, d2, d3] }
  | _ => none }
def walForceRow : OpenClaim := { program := "ytjfjmhmfhkdcbaa", sum := "daf554447285a60ebddb47e4367d284d0084c1e5364d399a1661cae0ea6f5401", func := "engross/engrosslaw17.WalForce", spec := "walForce", apart := false }
def WalForceSaid : Prop := walForceRow.holds Try.pinned (OpenSpec.ofChange walForceSpec)

/-- ITS FALSE NEIGHBOUR: 'it returns false'. Refute it at one input. -/
def walForceWrong : ChangeSpec := { name := "walForce", fn := fun _ => fun
  | [d1, d2, d3] => { results := [.lit (.bool false)], args := [d1, d2, d3] }
  | _ => none }
def WalForceWrongFalsely : Prop := walForceRow.holds Try.pinned (OpenSpec.ofChange walForceWrong)

/-- 'engrosslaw17.WalCuts': WHATEVER THE INPUT: true; the input reads as it did. -/
def walCutsSpec : ChangeSpec := { name := "walCuts", fn := fun _ => fun
  | [d1, d2] => { results := [.lit (.bool true)], args := [d1, d2] }
  | _ => none }
def walCutsRow : OpenClaim := { program := "ytjfjmhmfhkdcbaa", sum := "daf554447285a60ebddb47e4367d284d0084c1e5364d399a1661cae0ea6f5401", func := "engross/engrosslaw17.WalCuts", spec := "walCuts", apart := false }
def WalCutsSaid : Prop := walCutsRow.holds Try.pinned (OpenSpec.ofChange walCutsSpec)

/-- ITS FALSE NEIGHBOUR: 'it returns false'. Refute it at one input. -/
def walCutsWrong : ChangeSpec := { name := "walCuts", fn := fun _ => fun
  | [d1, d2] => { results := [.lit (.bool false)], args := [d1, d2] }
  | _ => none }
def WalCutsWrongFalsely : Prop := walCutsRow.holds Try.pinned (OpenSpec.ofChange walCutsWrong)

/- THE SECOND FORM. 'bulk': how many values and letters a reading holds, each counted each time it is reached (what is shared counts as often as it is met; a slice's spare places count too). A statement '..UptoSaid' is the law's where the arguments, and the package variables that the reading takes, are together of bulk at most 1048576: NARROWER than '..Said'. Prove '..Said' where nothing that the law and all that it calls make is longer than what came in: it says more and counts as full. Else prove '..UptoSaid'. A law counts once. -/
mutual
def uptoBulk {H : Type} : DataW H → Nat
  | .lit (.string bytes) => bytes.length + 1
  | .lit _ => 1
  | .nil => 1
  | .ptr d => uptoBulk d + 1
  | .slice elems spare => uptoBulkAll elems + uptoBulkAll spare + 1
  | .agg parts => uptoBulkAll parts + 1
  | .iface _ d => uptoBulk d + 1
  | .map entries => uptoBulkEntries entries + 1
  | .held _ => 1
def uptoBulkAll {H : Type} : List (DataW H) → Nat
  | [] => 0
  | d :: r => uptoBulk d + uptoBulkAll r
def uptoBulkEntries {H : Type} : List (Lit × DataW H) → Nat
  | [] => 0
  | x :: r => uptoBulkEntry x + uptoBulkEntries r
def uptoBulkEntry {H : Type} : Lit × DataW H → Nat
  | (.string bytes, d) => bytes.length + uptoBulk d + 1
  | (_, d) => uptoBulk d + 1
 end
def uptoSmall : (H : Type) → List (DataW H) → Bool := fun _ ds => decide (uptoBulkAll ds ≤ 1048576)
def OpenSpec.upto (s : _root_.Go.ChangeSpec) : _root_.Go.OpenSpec := { _root_.Go.OpenSpec.ofChange s with cond := some uptoSmall }

/-- 'engrosslaw17.WalFull', WHERE WHAT IT READS IS OF BULK AT MOST 1048576: true; the input reads as it did. -/
def walFullUptoRow : OpenClaim := { program := "ytjfjmhmfhkdcbaa", sum := "daf554447285a60ebddb47e4367d284d0084c1e5364d399a1661cae0ea6f5401", func := "engross/engrosslaw17.WalFull", spec := "walFull", apart := false, narrowed := true }
def WalFullUptoSaid : Prop := walFullUptoRow.holds Try.pinned (OpenSpec.upto walFullSpec)

/-- 'engrosslaw17.WalNone', WHERE WHAT IT READS IS OF BULK AT MOST 1048576: true; the input reads as it did. -/
def walNoneUptoRow : OpenClaim := { program := "ytjfjmhmfhkdcbaa", sum := "daf554447285a60ebddb47e4367d284d0084c1e5364d399a1661cae0ea6f5401", func := "engross/engrosslaw17.WalNone", spec := "walNone", apart := false, narrowed := true }
def WalNoneUptoSaid : Prop := walNoneUptoRow.holds Try.pinned (OpenSpec.upto walNoneSpec)

/-- 'engrosslaw17.WalPlaces', WHERE WHAT IT READS IS OF BULK AT MOST 1048576: true; the input reads as it did. -/
def walPlacesUptoRow : OpenClaim := { program := "ytjfjmhmfhkdcbaa", sum := "daf554447285a60ebddb47e4367d284d0084c1e5364d399a1661cae0ea6f5401", func := "engross/engrosslaw17.WalPlaces", spec := "walPlaces", apart := false, narrowed := true }
def WalPlacesUptoSaid : Prop := walPlacesUptoRow.holds Try.pinned (OpenSpec.upto walPlacesSpec)

/-- 'engrosslaw17.WalRing', WHERE WHAT IT READS IS OF BULK AT MOST 1048576: true; the input reads as it did. -/
def walRingUptoRow : OpenClaim := { program := "ytjfjmhmfhkdcbaa", sum := "daf554447285a60ebddb47e4367d284d0084c1e5364d399a1661cae0ea6f5401", func := "engross/engrosslaw17.WalRing", spec := "walRing", apart := false, narrowed := true }
def WalRingUptoSaid : Prop := walRingUptoRow.holds Try.pinned (OpenSpec.upto walRingSpec)

/-- 'engrosslaw17.WalForce', WHERE WHAT IT READS IS OF BULK AT MOST 1048576: true; the input reads as it did. -/
def walForceUptoRow : OpenClaim := { program := "ytjfjmhmfhkdcbaa", sum := "daf554447285a60ebddb47e4367d284d0084c1e5364d399a1661cae0ea6f5401", func := "engross/engrosslaw17.WalForce", spec := "walForce", apart := false, narrowed := true }
def WalForceUptoSaid : Prop := walForceUptoRow.holds Try.pinned (OpenSpec.upto walForceSpec)

/-- 'engrosslaw17.WalCuts', WHERE WHAT IT READS IS OF BULK AT MOST 1048576: true; the input reads as it did. -/
def walCutsUptoRow : OpenClaim := { program := "ytjfjmhmfhkdcbaa", sum := "daf554447285a60ebddb47e4367d284d0084c1e5364d399a1661cae0ea6f5401", func := "engross/engrosslaw17.WalCuts", spec := "walCuts", apart := false, narrowed := true }
def WalCutsUptoSaid : Prop := walCutsUptoRow.holds Try.pinned (OpenSpec.upto walCutsSpec)

end Rows
end Go.Proofs.Ytjfjmhmfhkdcbaa
