/- The closed facts of the row ShiftStays. -/
import Derived.Test.YtneohggmipeknaaGreatDoorCards
import Derived.Test.YtneohggmipeknaaGreatDoorPF
import Derived.ProofKit
import Derived.OpenShut
import Derived.ShutString
import Derived.ChangeOld
import Derived.SizedLaws
import Derived.Deep.DeepHandedRow
import Derived.Lib.LaidTab
set_option linter.unusedVariables false
set_option linter.unusedSimpArgs false
namespace Go.Proofs.YtneohggmipeknaaGreatDoor
open Go.ChangeShapes Go.WideShapes Go.ChangeAt Go.RowKit

theorem fact0 : (Rows.shiftStaysRow.wf (OpenSpec.ofChange Rows.shiftStaysSpec)) = true := by kernel_rfl
theorem fact3 : (Tryz.f3.params.all (Tryz.prog.readableRec ·)) = true := by kernel_rfl
theorem fact4 : (namedTie Tryz.prog Rows.shiftStaysRow.named Rows.shiftStaysSpec.vars) = true := by kernel_rfl
theorem fact5 : ((Rows.shiftStaysRow.stops == [])) = true := by kernel_rfl
theorem fact7 : ((Rows.shiftStaysRow.knobs == [])) = true := by kernel_rfl
theorem fact9 : ((Rows.shiftStaysRow.inPlace == Tryz.prog.inPlace 3)) = true := by kernel_rfl
theorem fact10 : ((Rows.shiftStaysRow.unfollowed == Tryz.prog.unfollowed 3)) = true := by kernel_rfl
theorem fact11 : ((Rows.shiftStaysRow.recurses == Tryz.prog.recurses 3)) = true := by kernel_rfl
theorem fact12 : ((Rows.shiftStaysRow.named == Tryz.prog.varsNamed 3)) = true := by kernel_rfl
theorem fact13 : ((Rows.shiftStaysRow.maps == (Tryz.f3.params.toList ++ Rows.shiftStaysSpec.plain.varTypes Tryz.prog).any (Tryz.prog.mapsRec ·))) = true := by kernel_rfl
theorem fact14 : ((Rows.shiftStaysRow.ifaces == (Tryz.f3.params.toList ++ Rows.shiftStaysSpec.plain.varTypes Tryz.prog).any (Tryz.prog.ifacesRec ·))) = true := by kernel_rfl
theorem fact15 : ((Rows.shiftStaysRow.mapsOut == Tryz.prog.mapsAmong Tryz.f3.resultTypes.toList)) = true := by kernel_rfl
theorem fact16 : ((Rows.shiftStaysRow.loops == (Tryz.f3.params.toList ++ Rows.shiftStaysSpec.plain.varTypes Tryz.prog).any (Tryz.prog.loopsFrom ·))) = true := by kernel_rfl
theorem fact17 : ((Rows.shiftStaysRow.wideKeys == (Tryz.f3.params.toList ++ Rows.shiftStaysSpec.plain.varTypes Tryz.prog ++ Tryz.f3.resultTypes.toList).any (Tryz.prog.wideKeysFrom ·))) = true := by kernel_rfl
theorem fact18 : (Rows.shiftStaysSpec.vars.all (Tryz.prog.varReadable ·)) = true := by kernel_rfl
theorem fact19 : (Tryz.f3.resultTypes.all (fun t => Tryz.prog.readableRec t && decide (t < Tryz.prog.types.size))) = true := by kernel_rfl
theorem fact20 : ((Rows.shiftStaysRow.ifacesOut == Tryz.f3.resultTypes.toList.any (Tryz.prog.ifacesRec ·))) = true := by kernel_rfl
theorem fact21 : ((Rows.shiftStaysRow.loopsOut == Tryz.f3.resultTypes.toList.any (Tryz.prog.loopsFrom ·))) = true := by kernel_rfl
theorem fact22 : ((Rows.shiftStaysRow.plainKeys == Tryz.prog.plainKeys)) = true := by kernel_rfl
theorem fact23 : (Rows.shiftStaysRow.shortTexts.isNone) = true := by kernel_rfl
theorem fact26 : ((Rows.shiftStaysRow.lifted == Tryz.prog.liftsFinal)) = true := by kernel_rfl
theorem fact27 : ((Tryz.prog.make == some Rows.shiftStaysRow.make)) = true := by kernel_rfl
theorem fact29 : ((Rows.shiftStaysRow.pinned == Rows.shiftStaysRow.pinnedBy)) = true := by kernel_rfl
theorem fact30 : ((Rows.shiftStaysRow.veiled == (Tryz.f3.params.toList ++ Rows.shiftStaysSpec.plain.varTypes Tryz.prog ++ Tryz.f3.resultTypes.toList).any (Tryz.prog.veiledRec ·))) = true := by kernel_rfl
theorem fact31 : (Rows.shiftStaysRow.veiledFits Tryz.prog Tryz.f3.params.toList (Tryz.f3.params.toList ++ Rows.shiftStaysSpec.plain.varTypes Tryz.prog ++ Tryz.f3.resultTypes.toList)) = true := by kernel_rfl
theorem closed_one : joinedFacts Tryz.prog 3 Tryz.f3 Rows.shiftStaysSpec Rows.shiftStaysRow = true := joined_of fact0 pfact1 pfact2 fact3 fact4 fact5 pfact6 fact7 pfact8 fact9 fact10 fact11 fact12 fact13 fact14 fact15 fact16 fact17 fact18 fact19 fact20 fact21 fact22 fact23 pfact24 pfact25 fact26 fact27 (by kernel_rfl) fact29 fact30 fact31
theorem closed_two : joinedFacts Tryz.pinned.checked.prog 3 Tryz.f3 (OpenSpec.ofChange Rows.shiftStaysSpec).bare Rows.shiftStaysRow = true := Eq.trans (b := joinedFacts Tryz.prog 3 Tryz.f3 Rows.shiftStaysSpec Rows.shiftStaysRow) (by kernel_rfl) closed_one
end Go.Proofs.YtneohggmipeknaaGreatDoor
