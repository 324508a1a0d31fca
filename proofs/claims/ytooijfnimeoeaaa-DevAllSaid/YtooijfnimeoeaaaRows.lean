/-
  No cell of these rows narrows 'for every input' (looked for: loops, veiled, ifaces, maps, wideKeys, modest, calm, conditions, laid).
  DERIVED. THE GIVEN ROWS OF THIS SEAT. 6 by the template 'for every input the law returns true; each argument reads behind the call as it read before'; 0 by the template 'total and deterministic' (their statements: YtooijfnimeoeaaaTotals.lean).
  GIVEN WITH THE SEED: the statements are not yours to turn. If you find one false, say at which input.
  Laid BY PROGRAM, IN A SANDBOX (cutbox-rows.mjs): the forced cells as the released guide's own fill.sh prints them over the translation fbe40e684daf52c5… (all of the seat's roots in one cut). By AI agents, Wed Nov 11 2026. No macro, syntax, notation, axiom, sorry.
-/
import Derived.Test.YtooijfnimeoeaaaChecked
import GoSem.Claim
import GoSem.ClaimJoined
import GoSem.ClaimMapViews
import Derived.JoinedTies
import Derived.KernelRfl
namespace Go.Proofs.Ytooijfnimeoeaaa
/- THE CELL 'sum', in the pinned program and in every row, IS THE sha256 OF THE DUMP (.gsa) THAT YtooijfnimeoeaaaProg.lean LOADS. Nothing in Lean hashes anything: it is a label: what it is worth is what the hold of that sum in a sandbox is worth. -/
noncomputable def Try.pinned : Pinned := { name := "ytooijfnimeoeaaa", sum := "fbe40e684daf52c53cb27b0784754a1f0bf244a3c012ae15aacc859616406b7e", checked := Try.checked }
namespace Rows
def none {H : Type} : Left H := { results := [], args := [] }

/-- 'engrosslaw7.DevAll': WHATEVER THE INPUT: true; the input reads as it did. -/
def devAllSpec : ChangeSpec := { name := "devAll", fn := fun _ => fun
  | [d1, d2] => { results := [.lit (.bool true)], args := [d1, d2] }
  | _ => none }
def devAllRow : OpenClaim := { program := "ytooijfnimeoeaaa", sum := "fbe40e684daf52c53cb27b0784754a1f0bf244a3c012ae15aacc859616406b7e", func := "engross/engrosslaw7.DevAll", spec := "devAll", apart := false }
def DevAllSaid : Prop := devAllRow.holds Try.pinned (OpenSpec.ofChange devAllSpec)

/-- ITS FALSE NEIGHBOUR: 'it returns false'. Refute it at one input. -/
def devAllWrong : ChangeSpec := { name := "devAll", fn := fun _ => fun
  | [d1, d2] => { results := [.lit (.bool false)], args := [d1, d2] }
  | _ => none }
def DevAllWrongFalsely : Prop := devAllRow.holds Try.pinned (OpenSpec.ofChange devAllWrong)

/-- 'engrosslaw7.DevOwn': WHATEVER THE INPUT: true; the input reads as it did. -/
def devOwnSpec : ChangeSpec := { name := "devOwn", fn := fun _ => fun
  | [d] => { results := [.lit (.bool true)], args := [d] }
  | _ => none }
def devOwnRow : OpenClaim := { program := "ytooijfnimeoeaaa", sum := "fbe40e684daf52c53cb27b0784754a1f0bf244a3c012ae15aacc859616406b7e", func := "engross/engrosslaw7.DevOwn", spec := "devOwn", apart := false }
def DevOwnSaid : Prop := devOwnRow.holds Try.pinned (OpenSpec.ofChange devOwnSpec)

/-- ITS FALSE NEIGHBOUR: 'it returns false'. Refute it at one input. -/
def devOwnWrong : ChangeSpec := { name := "devOwn", fn := fun _ => fun
  | [d] => { results := [.lit (.bool false)], args := [d] }
  | _ => none }
def DevOwnWrongFalsely : Prop := devOwnRow.holds Try.pinned (OpenSpec.ofChange devOwnWrong)

/-- 'engrosslaw7.DevNone': WHATEVER THE INPUT: true; the input reads as it did. -/
def devNoneSpec : ChangeSpec := { name := "devNone", fn := fun _ => fun
  | [] => { results := [.lit (.bool true)], args := [] }
  | _ => none }
def devNoneRow : OpenClaim := { program := "ytooijfnimeoeaaa", sum := "fbe40e684daf52c53cb27b0784754a1f0bf244a3c012ae15aacc859616406b7e", func := "engross/engrosslaw7.DevNone", spec := "devNone", apart := false }
def DevNoneSaid : Prop := devNoneRow.holds Try.pinned (OpenSpec.ofChange devNoneSpec)

/-- ITS FALSE NEIGHBOUR: 'it returns false'. Refute it at one input. -/
def devNoneWrong : ChangeSpec := { name := "devNone", fn := fun _ => fun
  | [] => { results := [.lit (.bool false)], args := [] }
  | _ => none }
def DevNoneWrongFalsely : Prop := devNoneRow.holds Try.pinned (OpenSpec.ofChange devNoneWrong)

/-- 'engrosslaw7.DevTwice': WHATEVER THE INPUT: true; the input reads as it did. -/
def devTwiceSpec : ChangeSpec := { name := "devTwice", fn := fun _ => fun
  | [d1, d2, d3, d4] => { results := [.lit (.bool true)], args := [d1, d2, d3, d4] }
  | _ => none }
def devTwiceRow : OpenClaim := { program := "ytooijfnimeoeaaa", sum := "fbe40e684daf52c53cb27b0784754a1f0bf244a3c012ae15aacc859616406b7e", func := "engross/engrosslaw7.DevTwice", spec := "devTwice", apart := false }
def DevTwiceSaid : Prop := devTwiceRow.holds Try.pinned (OpenSpec.ofChange devTwiceSpec)

/-- ITS FALSE NEIGHBOUR: 'it returns false'. Refute it at one input. -/
def devTwiceWrong : ChangeSpec := { name := "devTwice", fn := fun _ => fun
  | [d1, d2, d3, d4] => { results := [.lit (.bool false)], args := [d1, d2, d3, d4] }
  | _ => none }
def DevTwiceWrongFalsely : Prop := devTwiceRow.holds Try.pinned (OpenSpec.ofChange devTwiceWrong)

/-- 'engrosslaw7.DevFuse': WHATEVER THE INPUT: true; the input reads as it did. -/
def devFuseSpec : ChangeSpec := { name := "devFuse", fn := fun _ => fun
  | [d1, d2] => { results := [.lit (.bool true)], args := [d1, d2] }
  | _ => none }
def devFuseRow : OpenClaim := { program := "ytooijfnimeoeaaa", sum := "fbe40e684daf52c53cb27b0784754a1f0bf244a3c012ae15aacc859616406b7e", func := "engross/engrosslaw7.DevFuse", spec := "devFuse", apart := false }
def DevFuseSaid : Prop := devFuseRow.holds Try.pinned (OpenSpec.ofChange devFuseSpec)

/-- ITS FALSE NEIGHBOUR: 'it returns false'. Refute it at one input. -/
def devFuseWrong : ChangeSpec := { name := "devFuse", fn := fun _ => fun
  | [d1, d2] => { results := [.lit (.bool false)], args := [d1, d2] }
  | _ => none }
def DevFuseWrongFalsely : Prop := devFuseRow.holds Try.pinned (OpenSpec.ofChange devFuseWrong)

/-- 'engrosslaw7.DevKeeps': WHATEVER THE INPUT: true; the input reads as it did. -/
def devKeepsSpec : ChangeSpec := { name := "devKeeps", fn := fun _ => fun
  | [d1, d2] => { results := [.lit (.bool true)], args := [d1, d2] }
  | _ => none }
def devKeepsRow : OpenClaim := { program := "ytooijfnimeoeaaa", sum := "fbe40e684daf52c53cb27b0784754a1f0bf244a3c012ae15aacc859616406b7e", func := "engross/engrosslaw7.DevKeeps", spec := "devKeeps", apart := false }
def DevKeepsSaid : Prop := devKeepsRow.holds Try.pinned (OpenSpec.ofChange devKeepsSpec)

/-- ITS FALSE NEIGHBOUR: 'it returns false'. Refute it at one input. -/
def devKeepsWrong : ChangeSpec := { name := "devKeeps", fn := fun _ => fun
  | [d1, d2] => { results := [.lit (.bool false)], args := [d1, d2] }
  | _ => none }
def DevKeepsWrongFalsely : Prop := devKeepsRow.holds Try.pinned (OpenSpec.ofChange devKeepsWrong)

/- THE SECOND FORM. 'bulk': how many values and letters a reading holds, each counted each time it is reached (what is shared counts as often as it is met; a slice's spare places count too). A statement '..UptoSaid' is the law's where the arguments, and the package variables that the reading takes, are together of bulk at most 1048576: NARROWER than '..Said'. Prove '..Said' where nothing that the law and all that it calls make is longer than what came in: it says more and counts as full. Else prove '..UptoSaid'. A law counts once. -/
mutual
def uptoBulk {H : Type} : DataW H → Nat
  | .lit (.string bytes) => bytes.length + 1
  | .lit _ => 1
  | .nil => 1
  | .ptr d => uptoBulk d + 1
  | .slice elems spare => uptoBulkAll elems + uptoBulkAll spare + 1
  | .agg parts => uptoBulkAll parts + 1
  | .iface _ d => uptoBulk d + 1
  | .map entries => uptoBulkEntries entries + 1
  | .held _ => 1
def uptoBulkAll {H : Type} : List (DataW H) → Nat
  | [] => 0
  | d :: r => uptoBulk d + uptoBulkAll r
def uptoBulkEntries {H : Type} : List (Lit × DataW H) → Nat
  | [] => 0
  | x :: r => uptoBulkEntry x + uptoBulkEntries r
def uptoBulkEntry {H : Type} : Lit × DataW H → Nat
  | (.string bytes, d) => bytes.length + uptoBulk d + 1
  | (_, d) => uptoBulk d + 1
 end
def uptoSmall : (H : Type) → List (DataW H) → Bool := fun _ ds => decide (uptoBulkAll ds ≤ 1048576)
def OpenSpec.upto (s : _root_.Go.ChangeSpec) : _root_.Go.OpenSpec := { _root_.Go.OpenSpec.ofChange s with cond := some uptoSmall }

/-- 'engrosslaw7.DevAll', WHERE WHAT IT READS IS OF BULK AT MOST 1048576: true; the input reads as it did. -/
def devAllUptoRow : OpenClaim := { program := "ytooijfnimeoeaaa", sum := "fbe40e684daf52c53cb27b0784754a1f0bf244a3c012ae15aacc859616406b7e", func := "engross/engrosslaw7.DevAll", spec := "devAll", apart := false, narrowed := true }
def DevAllUptoSaid : Prop := devAllUptoRow.holds Try.pinned (OpenSpec.upto devAllSpec)

/-- 'engrosslaw7.DevOwn', WHERE WHAT IT READS IS OF BULK AT MOST 1048576: true; the input reads as it did. -/
def devOwnUptoRow : OpenClaim := { program := "ytooijfnimeoeaaa", sum := "fbe40e684daf52c53cb27b0784754a1f0bf244a3c012ae15aacc859616406b7e", func := "engross/engrosslaw7.DevOwn", spec := "devOwn", apart := false, narrowed := true }
def DevOwnUptoSaid : Prop := devOwnUptoRow.holds Try.pinned (OpenSpec.upto devOwnSpec)

/-- 'engrosslaw7.DevNone', WHERE WHAT IT READS IS OF BULK AT MOST 1048576: true; the input reads as it did. -/
def devNoneUptoRow : OpenClaim := { program := "ytooijfnimeoeaaa", sum := "fbe40e684daf52c53cb27b0784754a1f0bf244a3c012ae15aacc859616406b7e", func := "engross/engrosslaw7.DevNone", spec := "devNone", apart := false, narrowed := true }
def DevNoneUptoSaid : Prop := devNoneUptoRow.holds Try.pinned (OpenSpec.upto devNoneSpec)

/-- 'engrosslaw7.DevTwice', WHERE WHAT IT READS IS OF BULK AT MOST 1048576: true; the input reads as it did. -/
def devTwiceUptoRow : OpenClaim := { program := "ytooijfnimeoeaaa", sum := "fbe40e684daf52c53cb27b0784754a1f0bf244a3c012ae15aacc859616406b7e", func := "engross/engrosslaw7.DevTwice", spec := "devTwice", apart := false, narrowed := true }
def DevTwiceUptoSaid : Prop := devTwiceUptoRow.holds Try.pinned (OpenSpec.upto devTwiceSpec)

/-- 'engrosslaw7.DevFuse', WHERE WHAT IT READS IS OF BULK AT MOST 1048576: true; the input reads as it did. -/
def devFuseUptoRow : OpenClaim := { program := "ytooijfnimeoeaaa", sum := "fbe40e684daf52c53cb27b0784754a1f0bf244a3c012ae15aacc859616406b7e", func := "engross/engrosslaw7.DevFuse", spec := "devFuse", apart := false, narrowed := true }
def DevFuseUptoSaid : Prop := devFuseUptoRow.holds Try.pinned (OpenSpec.upto devFuseSpec)

/-- 'engrosslaw7.DevKeeps', WHERE WHAT IT READS IS OF BULK AT MOST 1048576: true; the input reads as it did. -/
def devKeepsUptoRow : OpenClaim := { program := "ytooijfnimeoeaaa", sum := "fbe40e684daf52c53cb27b0784754a1f0bf244a3c012ae15aacc859616406b7e", func := "engross/engrosslaw7.DevKeeps", spec := "devKeeps", apart := false, narrowed := true }
def DevKeepsUptoSaid : Prop := devKeepsUptoRow.holds Try.pinned (OpenSpec.upto devKeepsSpec)

end Rows
end Go.Proofs.Ytooijfnimeoeaaa
