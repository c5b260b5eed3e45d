/- The closed facts of the row ViewLives. -/
import Derived.Test.YtknjifhhfccfhaaGreatDoorCards
import Derived.Test.YtknjifhhfccfhaaGreatDoorPF
import Derived.ProofKit
import Derived.OpenShut
import Derived.ShutString
import Derived.ChangeOld
import Derived.SizedLaws
import Derived.Deep.DeepHandedRow
import Derived.Lib.LaidTab
set_option linter.unusedVariables false
set_option linter.unusedSimpArgs false
namespace Go.Proofs.YtknjifhhfccfhaaGreatDoor
open Go.ChangeShapes Go.WideShapes Go.ChangeAt Go.RowKit

theorem fact0 : (Rows.viewLivesRow.wf (OpenSpec.ofChange Rows.viewLivesSpec)) = true := by kernel_rfl
theorem fact3 : (Tryz.f4.params.all (Tryz.prog.readableRec ·)) = true := by kernel_rfl
theorem fact4 : (namedTie Tryz.prog Rows.viewLivesRow.named Rows.viewLivesSpec.vars) = true := by kernel_rfl
theorem fact5 : ((Rows.viewLivesRow.stops == [])) = true := by kernel_rfl
theorem fact7 : ((Rows.viewLivesRow.knobs == [])) = true := by kernel_rfl
theorem fact9 : ((Rows.viewLivesRow.inPlace == Tryz.prog.inPlace 4)) = true := by kernel_rfl
theorem fact10 : ((Rows.viewLivesRow.unfollowed == Tryz.prog.unfollowed 4)) = true := by kernel_rfl
theorem fact11 : ((Rows.viewLivesRow.recurses == Tryz.prog.recurses 4)) = true := by kernel_rfl
theorem fact12 : ((Rows.viewLivesRow.named == Tryz.prog.varsNamed 4)) = true := by kernel_rfl
theorem fact13 : ((Rows.viewLivesRow.maps == (Tryz.f4.params.toList ++ Rows.viewLivesSpec.plain.varTypes Tryz.prog).any (Tryz.prog.mapsRec ·))) = true := by kernel_rfl
theorem fact14 : ((Rows.viewLivesRow.ifaces == (Tryz.f4.params.toList ++ Rows.viewLivesSpec.plain.varTypes Tryz.prog).any (Tryz.prog.ifacesRec ·))) = true := by kernel_rfl
theorem fact15 : ((Rows.viewLivesRow.mapsOut == Tryz.prog.mapsAmong Tryz.f4.resultTypes.toList)) = true := by kernel_rfl
theorem fact16 : ((Rows.viewLivesRow.loops == (Tryz.f4.params.toList ++ Rows.viewLivesSpec.plain.varTypes Tryz.prog).any (Tryz.prog.loopsFrom ·))) = true := by kernel_rfl
theorem fact17 : ((Rows.viewLivesRow.wideKeys == (Tryz.f4.params.toList ++ Rows.viewLivesSpec.plain.varTypes Tryz.prog ++ Tryz.f4.resultTypes.toList).any (Tryz.prog.wideKeysFrom ·))) = true := by kernel_rfl
theorem fact18 : (Rows.viewLivesSpec.vars.all (Tryz.prog.varReadable ·)) = true := by kernel_rfl
theorem fact19 : (Tryz.f4.resultTypes.all (fun t => Tryz.prog.readableRec t && decide (t < Tryz.prog.types.size))) = true := by kernel_rfl
theorem fact20 : ((Rows.viewLivesRow.ifacesOut == Tryz.f4.resultTypes.toList.any (Tryz.prog.ifacesRec ·))) = true := by kernel_rfl
theorem fact21 : ((Rows.viewLivesRow.loopsOut == Tryz.f4.resultTypes.toList.any (Tryz.prog.loopsFrom ·))) = true := by kernel_rfl
theorem fact22 : ((Rows.viewLivesRow.plainKeys == Tryz.prog.plainKeys)) = true := by kernel_rfl
theorem fact23 : (Rows.viewLivesRow.shortTexts.isNone) = true := by kernel_rfl
theorem fact26 : ((Rows.viewLivesRow.lifted == Tryz.prog.liftsFinal)) = true := by kernel_rfl
theorem fact27 : ((Tryz.prog.make == some Rows.viewLivesRow.make)) = true := by kernel_rfl
theorem fact29 : ((Rows.viewLivesRow.pinned == Rows.viewLivesRow.pinnedBy)) = true := by kernel_rfl
theorem fact30 : ((Rows.viewLivesRow.veiled == (Tryz.f4.params.toList ++ Rows.viewLivesSpec.plain.varTypes Tryz.prog ++ Tryz.f4.resultTypes.toList).any (Tryz.prog.veiledRec ·))) = true := by kernel_rfl
theorem fact31 : (Rows.viewLivesRow.veiledFits Tryz.prog Tryz.f4.params.toList (Tryz.f4.params.toList ++ Rows.viewLivesSpec.plain.varTypes Tryz.prog ++ Tryz.f4.resultTypes.toList)) = true := by kernel_rfl
theorem closed_one : joinedFacts Tryz.prog 4 Tryz.f4 Rows.viewLivesSpec Rows.viewLivesRow = true := joined_of fact0 pfact1 pfact2 fact3 fact4 fact5 pfact6 fact7 pfact8 fact9 fact10 fact11 fact12 fact13 fact14 fact15 fact16 fact17 fact18 fact19 fact20 fact21 fact22 fact23 pfact24 pfact25 fact26 fact27 (by kernel_rfl) fact29 fact30 fact31
theorem closed_two : joinedFacts Tryz.pinned.checked.prog 4 Tryz.f4 (OpenSpec.ofChange Rows.viewLivesSpec).bare Rows.viewLivesRow = true := Eq.trans (b := joinedFacts Tryz.prog 4 Tryz.f4 Rows.viewLivesSpec Rows.viewLivesRow) (by kernel_rfl) closed_one
end Go.Proofs.YtknjifhhfccfhaaGreatDoor
