/-
  The closed facts of the row of the law, each on its own.
-/
import Derived.Test.YtokggoikffcijaaGreatDoorCards
import Derived.Test.YtokggoikffcijaaGreatDoorTie
import Derived.WalkKit
import Derived.ProofKit
import Derived.OpenShut
import Derived.LaidMore
import Derived.Lay
import Derived.LaidOnce
import Derived.SevenTiedAt
namespace Go.Proofs.YtokggoikffcijaaGreatDoor.topEmpty
open Go.ChangeShapes Go.WideShapes Go.ChangeAt Go.RowKit
open Go
set_option linter.unusedVariables false
set_option maxRecDepth 100000

theorem own : ownKnob Tryz.prog.godebug = none := by kernel_rfl
theorem fact1 : Rows.topEmptyRow.inPlace = Tryz.pinned.checked.prog.inPlace 4 := by kernel_rfl
theorem fact2 : Rows.topEmptyRow.unfollowed = Tryz.pinned.checked.prog.unfollowed 4 := by kernel_rfl
theorem fact3 : Rows.topEmptyRow.recurses = Tryz.pinned.checked.prog.recurses 4 := by kernel_rfl
theorem fact4 : Rows.topEmptyRow.named = Tryz.pinned.checked.prog.varsNamed 4 := by kernel_rfl
theorem band {a b : Bool} (h1 : a = true) (h2 : b = true) : (a && b) = true := by rw [h1, h2]; rfl
theorem g1 : (Rows.topEmptyRow.wf (OpenSpec.ofChange Rows.topEmptySpec)) = true := by kernel_rfl
theorem g2 : (laidOutB Tryz.pinned.checked.prog) = true := by kernel_rfl
theorem g3 : (mapsRowed Tryz.pinned.checked.prog) = true := by kernel_rfl
theorem g4 : (Tryz.f4.params.all (Tryz.pinned.checked.prog.readableRec ·)) = true := by kernel_rfl
theorem g5 : (namedTie Tryz.pinned.checked.prog Rows.topEmptyRow.named Rows.topEmptySpec.vars) = true := by kernel_rfl
theorem g6 : ((Rows.topEmptyRow.stops == [])) = true := by kernel_rfl
theorem g7 : ((Tryz.pinned.checked.prog.stops == [])) = true := by kernel_rfl
theorem g8 : ((Rows.topEmptyRow.knobs == [])) = true := by kernel_rfl
theorem g9 : ((Tryz.pinned.checked.prog.stopKnobs == [])) = true := by kernel_rfl
theorem g10 : ((Rows.topEmptyRow.inPlace == Tryz.pinned.checked.prog.inPlace 4)) = true := beq_iff_eq.2 fact1
theorem g11 : ((Rows.topEmptyRow.unfollowed == Tryz.pinned.checked.prog.unfollowed 4)) = true := beq_iff_eq.2 fact2
theorem g12 : ((Rows.topEmptyRow.recurses == Tryz.pinned.checked.prog.recurses 4)) = true := beq_iff_eq.2 fact3
theorem g13 : ((Rows.topEmptyRow.named == Tryz.pinned.checked.prog.varsNamed 4)) = true := beq_iff_eq.2 fact4
theorem g14 : ((Rows.topEmptyRow.maps == (Tryz.f4.params.toList ++ Rows.topEmptySpec.plain.varTypes Tryz.pinned.checked.prog).any (Tryz.pinned.checked.prog.mapsRec ·))) = true := by kernel_rfl
theorem g15 : ((Rows.topEmptyRow.ifaces == (Tryz.f4.params.toList ++ Rows.topEmptySpec.plain.varTypes Tryz.pinned.checked.prog).any (Tryz.pinned.checked.prog.ifacesRec ·))) = true := by kernel_rfl
theorem g16 : ((Rows.topEmptyRow.mapsOut == Tryz.pinned.checked.prog.mapsAmong Tryz.f4.resultTypes.toList)) = true := by kernel_rfl
theorem g17 : ((Rows.topEmptyRow.loops == (Tryz.f4.params.toList ++ Rows.topEmptySpec.plain.varTypes Tryz.pinned.checked.prog).any (Tryz.pinned.checked.prog.loopsFrom ·))) = true := by kernel_rfl
theorem g18 : ((Rows.topEmptyRow.wideKeys == (Tryz.f4.params.toList ++ Rows.topEmptySpec.plain.varTypes Tryz.pinned.checked.prog ++ Tryz.f4.resultTypes.toList).any (Tryz.pinned.checked.prog.wideKeysFrom ·))) = true := by kernel_rfl
theorem g19 : (Rows.topEmptySpec.vars.all (Tryz.pinned.checked.prog.varReadable ·)) = true := by kernel_rfl
theorem g20 : (Tryz.f4.resultTypes.all (fun t => Tryz.pinned.checked.prog.readableRec t && decide (t < Tryz.pinned.checked.prog.types.size))) = true := by kernel_rfl
theorem g21 : ((Rows.topEmptyRow.ifacesOut == Tryz.f4.resultTypes.toList.any (Tryz.pinned.checked.prog.ifacesRec ·))) = true := by kernel_rfl
theorem g22 : ((Rows.topEmptyRow.loopsOut == Tryz.f4.resultTypes.toList.any (Tryz.pinned.checked.prog.loopsFrom ·))) = true := by kernel_rfl
theorem g23 : ((Rows.topEmptyRow.plainKeys == Tryz.pinned.checked.prog.plainKeys)) = true := by kernel_rfl
theorem g24 : (Rows.topEmptyRow.shortTexts.isNone) = true := by kernel_rfl
theorem g25 : (Tryz.pinned.checked.prog.stopsHeard) = true := by kernel_rfl
theorem g26 : (Tryz.pinned.checked.prog.mayEnter) = true := by kernel_rfl
theorem g27 : ((Rows.topEmptyRow.lifted == Tryz.pinned.checked.prog.liftsFinal)) = true := by kernel_rfl
theorem g28 : ((Tryz.pinned.checked.prog.make == some Rows.topEmptyRow.make)) = true := by kernel_rfl
theorem g29 : ((Rows.topEmptyRow.kinds == (if Rows.topEmptyRow.domain.isEmpty then [] else Tryz.f4.params.toList.map fun t => match Tryz.pinned.checked.prog.underlying t with | some (.int k) => some k | _ => none))) = true := by kernel_rfl
theorem g30 : ((Rows.topEmptyRow.pinned == Rows.topEmptyRow.pinnedBy)) = true := by kernel_rfl
theorem g31 : ((Rows.topEmptyRow.veiled == (Tryz.f4.params.toList ++ Rows.topEmptySpec.plain.varTypes Tryz.pinned.checked.prog ++ Tryz.f4.resultTypes.toList).any (Tryz.pinned.checked.prog.veiledRec ·))) = true := by kernel_rfl
theorem g32 : (Rows.topEmptyRow.veiledFits Tryz.pinned.checked.prog Tryz.f4.params.toList (Tryz.f4.params.toList ++ Rows.topEmptySpec.plain.varTypes Tryz.pinned.checked.prog ++ Tryz.f4.resultTypes.toList)) = true := by kernel_rfl
theorem closed : joinedFacts Tryz.pinned.checked.prog 4 Tryz.f4 Rows.topEmptySpec Rows.topEmptyRow = true := band (band (band (band (band (band (band (band (band (band (band (band (band (band (band (band (band (band (band (band (band (band (band (band (band (band (band (band (band (band (band (g1) g2) g3) g4) g5) g6) g7) g8) g9) g10) g11) g12) g13) g14) g15) g16) g17) g18) g19) g20) g21) g22) g23) g24) g25) g26) g27) g28) g29) g30) g31) g32
end Go.Proofs.YtokggoikffcijaaGreatDoor.topEmpty
