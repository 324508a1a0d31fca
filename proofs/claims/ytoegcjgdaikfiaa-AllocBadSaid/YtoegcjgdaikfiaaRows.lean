/-
  No cell of these rows narrows 'for every input' (looked for: loops, veiled, ifaces, maps, wideKeys, modest, calm, conditions, laid).
  DERIVED. THE GIVEN ROWS OF THIS SEAT. 5 by the template 'for every input the law returns true; each argument reads behind the call as it read before'; 0 by the template 'total and deterministic' (their statements: YtoegcjgdaikfiaaTotals.lean).
  GIVEN WITH THE SEED: the statements are not yours to turn. If you find one false, say at which input.
  Laid BY PROGRAM, IN A SANDBOX (cutbox-rows.mjs): the forced cells as the released guide's own fill.sh prints them over the translation 6662c0362870934e… (all of the seat's roots in one cut). By AI agents, Wed Nov 11 2026. No macro, syntax, notation, axiom, sorry.
-/
import Derived.Test.YtoegcjgdaikfiaaChecked
import GoSem.Claim
import GoSem.ClaimJoined
import GoSem.ClaimMapViews
import Derived.JoinedTies
import Derived.KernelRfl
namespace Go.Proofs.Ytoegcjgdaikfiaa
/- THE CELL 'sum', in the pinned program and in every row, IS THE sha256 OF THE DUMP (.gsa) THAT YtoegcjgdaikfiaaProg.lean LOADS. Nothing in Lean hashes anything: it is a label: what it is worth is what the hold of that sum in a sandbox is worth. -/
noncomputable def Try.pinned : Pinned := { name := "ytoegcjgdaikfiaa", sum := "6662c0362870934e31ab7efc377da17aa948f29a12c9e6affdc5fcb9b8e43f50", checked := Try.checked }
namespace Rows
def none {H : Type} : Left H := { results := [], args := [] }

/-- 'engrosslaw13.AllocAll': WHATEVER THE INPUT: true; the input reads as it did. -/
def allocAllSpec : ChangeSpec := { name := "allocAll", fn := fun _ => fun
  | [d1, d2] => { results := [.lit (.bool true)], args := [d1, d2] }
  | _ => none }
def allocAllRow : OpenClaim := { program := "ytoegcjgdaikfiaa", sum := "6662c0362870934e31ab7efc377da17aa948f29a12c9e6affdc5fcb9b8e43f50", func := "engross/engrosslaw13.AllocAll", spec := "allocAll", unfollowed := true, recurses := true, apart := false }
def AllocAllSaid : Prop := allocAllRow.holds Try.pinned (OpenSpec.ofChange allocAllSpec)

/-- ITS FALSE NEIGHBOUR: 'it returns false'. Refute it at one input. -/
def allocAllWrong : ChangeSpec := { name := "allocAll", fn := fun _ => fun
  | [d1, d2] => { results := [.lit (.bool false)], args := [d1, d2] }
  | _ => none }
def AllocAllWrongFalsely : Prop := allocAllRow.holds Try.pinned (OpenSpec.ofChange allocAllWrong)

/-- 'engrosslaw13.AllocBits': WHATEVER THE INPUT: true; the input reads as it did. -/
def allocBitsSpec : ChangeSpec := { name := "allocBits", fn := fun _ => fun
  | [d1, d2, d3, d4] => { results := [.lit (.bool true)], args := [d1, d2, d3, d4] }
  | _ => none }
def allocBitsRow : OpenClaim := { program := "ytoegcjgdaikfiaa", sum := "6662c0362870934e31ab7efc377da17aa948f29a12c9e6affdc5fcb9b8e43f50", func := "engross/engrosslaw13.AllocBits", spec := "allocBits", unfollowed := true, recurses := true, apart := false }
def AllocBitsSaid : Prop := allocBitsRow.holds Try.pinned (OpenSpec.ofChange allocBitsSpec)

/-- ITS FALSE NEIGHBOUR: 'it returns false'. Refute it at one input. -/
def allocBitsWrong : ChangeSpec := { name := "allocBits", fn := fun _ => fun
  | [d1, d2, d3, d4] => { results := [.lit (.bool false)], args := [d1, d2, d3, d4] }
  | _ => none }
def AllocBitsWrongFalsely : Prop := allocBitsRow.holds Try.pinned (OpenSpec.ofChange allocBitsWrong)

/-- 'engrosslaw13.AllocAllOf': WHATEVER THE INPUT: true; the input reads as it did. -/
def allocAllOfSpec : ChangeSpec := { name := "allocAllOf", fn := fun _ => fun
  | [d1, d2] => { results := [.lit (.bool true)], args := [d1, d2] }
  | _ => none }
def allocAllOfRow : OpenClaim := { program := "ytoegcjgdaikfiaa", sum := "6662c0362870934e31ab7efc377da17aa948f29a12c9e6affdc5fcb9b8e43f50", func := "engross/engrosslaw13.AllocAllOf", spec := "allocAllOf", unfollowed := true, recurses := true, apart := false }
def AllocAllOfSaid : Prop := allocAllOfRow.holds Try.pinned (OpenSpec.ofChange allocAllOfSpec)

/-- ITS FALSE NEIGHBOUR: 'it returns false'. Refute it at one input. -/
def allocAllOfWrong : ChangeSpec := { name := "allocAllOf", fn := fun _ => fun
  | [d1, d2] => { results := [.lit (.bool false)], args := [d1, d2] }
  | _ => none }
def AllocAllOfWrongFalsely : Prop := allocAllOfRow.holds Try.pinned (OpenSpec.ofChange allocAllOfWrong)

/-- 'engrosslaw13.AllocRoot': WHATEVER THE INPUT: true; the input reads as it did. -/
def allocRootSpec : ChangeSpec := { name := "allocRoot", fn := fun _ => fun
  | [d] => { results := [.lit (.bool true)], args := [d] }
  | _ => none }
def allocRootRow : OpenClaim := { program := "ytoegcjgdaikfiaa", sum := "6662c0362870934e31ab7efc377da17aa948f29a12c9e6affdc5fcb9b8e43f50", func := "engross/engrosslaw13.AllocRoot", spec := "allocRoot", unfollowed := true, recurses := true, apart := false }
def AllocRootSaid : Prop := allocRootRow.holds Try.pinned (OpenSpec.ofChange allocRootSpec)

/-- ITS FALSE NEIGHBOUR: 'it returns false'. Refute it at one input. -/
def allocRootWrong : ChangeSpec := { name := "allocRoot", fn := fun _ => fun
  | [d] => { results := [.lit (.bool false)], args := [d] }
  | _ => none }
def AllocRootWrongFalsely : Prop := allocRootRow.holds Try.pinned (OpenSpec.ofChange allocRootWrong)

/-- 'engrosslaw13.AllocBad': WHATEVER THE INPUT: true; the input reads as it did. -/
def allocBadSpec : ChangeSpec := { name := "allocBad", fn := fun _ => fun
  | [] => { results := [.lit (.bool true)], args := [] }
  | _ => none }
def allocBadRow : OpenClaim := { program := "ytoegcjgdaikfiaa", sum := "6662c0362870934e31ab7efc377da17aa948f29a12c9e6affdc5fcb9b8e43f50", func := "engross/engrosslaw13.AllocBad", spec := "allocBad", unfollowed := true, recurses := true, apart := false }
def AllocBadSaid : Prop := allocBadRow.holds Try.pinned (OpenSpec.ofChange allocBadSpec)

/-- ITS FALSE NEIGHBOUR: 'it returns false'. Refute it at one input. -/
def allocBadWrong : ChangeSpec := { name := "allocBad", fn := fun _ => fun
  | [] => { results := [.lit (.bool false)], args := [] }
  | _ => none }
def AllocBadWrongFalsely : Prop := allocBadRow.holds Try.pinned (OpenSpec.ofChange allocBadWrong)

/- THE SECOND FORM. 'bulk': how many values and letters a reading holds, each counted each time it is reached (what is shared counts as often as it is met; a slice's spare places count too). A statement '..UptoSaid' is the law's where the arguments, and the package variables that the reading takes, are together of bulk at most 1048576: NARROWER than '..Said'. Prove '..Said' where nothing that the law and all that it calls make is longer than what came in: it says more and counts as full. Else prove '..UptoSaid'. A law counts once. -/
mutual
def uptoBulk {H : Type} : DataW H → Nat
  | .lit (.string bytes) => bytes.length + 1
  | .lit _ => 1
  | .nil => 1
  | .ptr d => uptoBulk d + 1
  | .slice elems spare => uptoBulkAll elems + uptoBulkAll spare + 1
  | .agg parts => uptoBulkAll parts + 1
  | .iface _ d => uptoBulk d + 1
  | .map entries => uptoBulkEntries entries + 1
  | .held _ => 1
def uptoBulkAll {H : Type} : List (DataW H) → Nat
  | [] => 0
  | d :: r => uptoBulk d + uptoBulkAll r
def uptoBulkEntries {H : Type} : List (Lit × DataW H) → Nat
  | [] => 0
  | x :: r => uptoBulkEntry x + uptoBulkEntries r
def uptoBulkEntry {H : Type} : Lit × DataW H → Nat
  | (.string bytes, d) => bytes.length + uptoBulk d + 1
  | (_, d) => uptoBulk d + 1
 end
def uptoSmall : (H : Type) → List (DataW H) → Bool := fun _ ds => decide (uptoBulkAll ds ≤ 1048576)
def OpenSpec.upto (s : _root_.Go.ChangeSpec) : _root_.Go.OpenSpec := { _root_.Go.OpenSpec.ofChange s with cond := some uptoSmall }

/-- 'engrosslaw13.AllocAll', WHERE WHAT IT READS IS OF BULK AT MOST 1048576: true; the input reads as it did. -/
def allocAllUptoRow : OpenClaim := { program := "ytoegcjgdaikfiaa", sum := "6662c0362870934e31ab7efc377da17aa948f29a12c9e6affdc5fcb9b8e43f50", func := "engross/engrosslaw13.AllocAll", spec := "allocAll", unfollowed := true, recurses := true, apart := false, narrowed := true }
def AllocAllUptoSaid : Prop := allocAllUptoRow.holds Try.pinned (OpenSpec.upto allocAllSpec)

/-- 'engrosslaw13.AllocBits', WHERE WHAT IT READS IS OF BULK AT MOST 1048576: true; the input reads as it did. -/
def allocBitsUptoRow : OpenClaim := { program := "ytoegcjgdaikfiaa", sum := "6662c0362870934e31ab7efc377da17aa948f29a12c9e6affdc5fcb9b8e43f50", func := "engross/engrosslaw13.AllocBits", spec := "allocBits", unfollowed := true, recurses := true, apart := false, narrowed := true }
def AllocBitsUptoSaid : Prop := allocBitsUptoRow.holds Try.pinned (OpenSpec.upto allocBitsSpec)

/-- 'engrosslaw13.AllocAllOf', WHERE WHAT IT READS IS OF BULK AT MOST 1048576: true; the input reads as it did. -/
def allocAllOfUptoRow : OpenClaim := { program := "ytoegcjgdaikfiaa", sum := "6662c0362870934e31ab7efc377da17aa948f29a12c9e6affdc5fcb9b8e43f50", func := "engross/engrosslaw13.AllocAllOf", spec := "allocAllOf", unfollowed := true, recurses := true, apart := false, narrowed := true }
def AllocAllOfUptoSaid : Prop := allocAllOfUptoRow.holds Try.pinned (OpenSpec.upto allocAllOfSpec)

/-- 'engrosslaw13.AllocRoot', WHERE WHAT IT READS IS OF BULK AT MOST 1048576: true; the input reads as it did. -/
def allocRootUptoRow : OpenClaim := { program := "ytoegcjgdaikfiaa", sum := "6662c0362870934e31ab7efc377da17aa948f29a12c9e6affdc5fcb9b8e43f50", func := "engross/engrosslaw13.AllocRoot", spec := "allocRoot", unfollowed := true, recurses := true, apart := false, narrowed := true }
def AllocRootUptoSaid : Prop := allocRootUptoRow.holds Try.pinned (OpenSpec.upto allocRootSpec)

/-- 'engrosslaw13.AllocBad', WHERE WHAT IT READS IS OF BULK AT MOST 1048576: true; the input reads as it did. -/
def allocBadUptoRow : OpenClaim := { program := "ytoegcjgdaikfiaa", sum := "6662c0362870934e31ab7efc377da17aa948f29a12c9e6affdc5fcb9b8e43f50", func := "engross/engrosslaw13.AllocBad", spec := "allocBad", unfollowed := true, recurses := true, apart := false, narrowed := true }
def AllocBadUptoSaid : Prop := allocBadUptoRow.holds Try.pinned (OpenSpec.upto allocBadSpec)

end Rows
end Go.Proofs.Ytoegcjgdaikfiaa
