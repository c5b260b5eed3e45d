/- The closed facts of the row ShiftLives. -/
import Derived.Test.YtneohggmipeknaaGreatDoorCards
import Derived.Test.YtneohggmipeknaaGreatDoorPF
import Derived.ProofKit
import Derived.OpenShut
import Derived.ShutString
import Derived.ChangeOld
import Derived.SizedLaws
import Derived.Deep.DeepHandedRow
import Derived.Lib.LaidTab
set_option linter.unusedVariables false
set_option linter.unusedSimpArgs false
namespace Go.Proofs.YtneohggmipeknaaGreatDoor
open Go.ChangeShapes Go.WideShapes Go.ChangeAt Go.RowKit

theorem fact0 : (Rows.shiftLivesRow.wf (OpenSpec.ofChange Rows.shiftLivesSpec)) = true := by kernel_rfl
theorem fact3 : (Tryz.f4.params.all (Tryz.prog.readableRec ·)) = true := by kernel_rfl
theorem fact4 : (namedTie Tryz.prog Rows.shiftLivesRow.named Rows.shiftLivesSpec.vars) = true := by kernel_rfl
theorem fact5 : ((Rows.shiftLivesRow.stops == [])) = true := by kernel_rfl
theorem fact7 : ((Rows.shiftLivesRow.knobs == [])) = true := by kernel_rfl
theorem fact9 : ((Rows.shiftLivesRow.inPlace == Tryz.prog.inPlace 4)) = true := by kernel_rfl
theorem fact10 : ((Rows.shiftLivesRow.unfollowed == Tryz.prog.unfollowed 4)) = true := by kernel_rfl
theorem fact11 : ((Rows.shiftLivesRow.recurses == Tryz.prog.recurses 4)) = true := by kernel_rfl
theorem fact12 : ((Rows.shiftLivesRow.named == Tryz.prog.varsNamed 4)) = true := by kernel_rfl
theorem fact13 : ((Rows.shiftLivesRow.maps == (Tryz.f4.params.toList ++ Rows.shiftLivesSpec.plain.varTypes Tryz.prog).any (Tryz.prog.mapsRec ·))) = true := by kernel_rfl
theorem fact14 : ((Rows.shiftLivesRow.ifaces == (Tryz.f4.params.toList ++ Rows.shiftLivesSpec.plain.varTypes Tryz.prog).any (Tryz.prog.ifacesRec ·))) = true := by kernel_rfl
theorem fact15 : ((Rows.shiftLivesRow.mapsOut == Tryz.prog.mapsAmong Tryz.f4.resultTypes.toList)) = true := by kernel_rfl
theorem fact16 : ((Rows.shiftLivesRow.loops == (Tryz.f4.params.toList ++ Rows.shiftLivesSpec.plain.varTypes Tryz.prog).any (Tryz.prog.loopsFrom ·))) = true := by kernel_rfl
theorem fact17 : ((Rows.shiftLivesRow.wideKeys == (Tryz.f4.params.toList ++ Rows.shiftLivesSpec.plain.varTypes Tryz.prog ++ Tryz.f4.resultTypes.toList).any (Tryz.prog.wideKeysFrom ·))) = true := by kernel_rfl
theorem fact18 : (Rows.shiftLivesSpec.vars.all (Tryz.prog.varReadable ·)) = true := by kernel_rfl
theorem fact19 : (Tryz.f4.resultTypes.all (fun t => Tryz.prog.readableRec t && decide (t < Tryz.prog.types.size))) = true := by kernel_rfl
theorem fact20 : ((Rows.shiftLivesRow.ifacesOut == Tryz.f4.resultTypes.toList.any (Tryz.prog.ifacesRec ·))) = true := by kernel_rfl
theorem fact21 : ((Rows.shiftLivesRow.loopsOut == Tryz.f4.resultTypes.toList.any (Tryz.prog.loopsFrom ·))) = true := by kernel_rfl
theorem fact22 : ((Rows.shiftLivesRow.plainKeys == Tryz.prog.plainKeys)) = true := by kernel_rfl
theorem fact23 : (Rows.shiftLivesRow.shortTexts.isNone) = true := by kernel_rfl
theorem fact26 : ((Rows.shiftLivesRow.lifted == Tryz.prog.liftsFinal)) = true := by kernel_rfl
theorem fact27 : ((Tryz.prog.make == some Rows.shiftLivesRow.make)) = true := by kernel_rfl
theorem fact29 : ((Rows.shiftLivesRow.pinned == Rows.shiftLivesRow.pinnedBy)) = true := by kernel_rfl
theorem fact30 : ((Rows.shiftLivesRow.veiled == (Tryz.f4.params.toList ++ Rows.shiftLivesSpec.plain.varTypes Tryz.prog ++ Tryz.f4.resultTypes.toList).any (Tryz.prog.veiledRec ·))) = true := by kernel_rfl
theorem fact31 : (Rows.shiftLivesRow.veiledFits Tryz.prog Tryz.f4.params.toList (Tryz.f4.params.toList ++ Rows.shiftLivesSpec.plain.varTypes Tryz.prog ++ Tryz.f4.resultTypes.toList)) = true := by kernel_rfl
theorem closed_one : joinedFacts Tryz.prog 4 Tryz.f4 Rows.shiftLivesSpec Rows.shiftLivesRow = true := joined_of fact0 pfact1 pfact2 fact3 fact4 fact5 pfact6 fact7 pfact8 fact9 fact10 fact11 fact12 fact13 fact14 fact15 fact16 fact17 fact18 fact19 fact20 fact21 fact22 fact23 pfact24 pfact25 fact26 fact27 (by kernel_rfl) fact29 fact30 fact31
theorem closed_two : joinedFacts Tryz.pinned.checked.prog 4 Tryz.f4 (OpenSpec.ofChange Rows.shiftLivesSpec).bare Rows.shiftLivesRow = true := Eq.trans (b := joinedFacts Tryz.prog 4 Tryz.f4 Rows.shiftLivesSpec Rows.shiftLivesRow) (by kernel_rfl) closed_one
end Go.Proofs.YtneohggmipeknaaGreatDoor
