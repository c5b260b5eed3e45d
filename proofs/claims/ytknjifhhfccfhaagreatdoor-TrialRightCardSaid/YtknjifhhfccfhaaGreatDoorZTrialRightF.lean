/- The closed facts of the row TrialRight. -/
import Derived.Test.YtknjifhhfccfhaaGreatDoorCards
import Derived.Test.YtknjifhhfccfhaaGreatDoorPF
import Derived.ProofKit
import Derived.OpenShut
import Derived.ShutString
import Derived.ChangeOld
import Derived.SizedLaws
import Derived.Deep.DeepHandedRow
import Derived.Lib.LaidTab
set_option linter.unusedVariables false
set_option linter.unusedSimpArgs false
namespace Go.Proofs.YtknjifhhfccfhaaGreatDoor
open Go.ChangeShapes Go.WideShapes Go.ChangeAt Go.RowKit

theorem fact0 : (Rows.trialRightRow.wf (OpenSpec.ofChange Rows.trialRightSpec)) = true := by kernel_rfl
theorem fact3 : (Tryz.f5.params.all (Tryz.prog.readableRec ·)) = true := by kernel_rfl
theorem fact4 : (namedTie Tryz.prog Rows.trialRightRow.named Rows.trialRightSpec.vars) = true := by kernel_rfl
theorem fact5 : ((Rows.trialRightRow.stops == [])) = true := by kernel_rfl
theorem fact7 : ((Rows.trialRightRow.knobs == [])) = true := by kernel_rfl
theorem fact9 : ((Rows.trialRightRow.inPlace == Tryz.prog.inPlace 5)) = true := by kernel_rfl
theorem fact10 : ((Rows.trialRightRow.unfollowed == Tryz.prog.unfollowed 5)) = true := by kernel_rfl
theorem fact11 : ((Rows.trialRightRow.recurses == Tryz.prog.recurses 5)) = true := by kernel_rfl
theorem fact12 : ((Rows.trialRightRow.named == Tryz.prog.varsNamed 5)) = true := by kernel_rfl
theorem fact13 : ((Rows.trialRightRow.maps == (Tryz.f5.params.toList ++ Rows.trialRightSpec.plain.varTypes Tryz.prog).any (Tryz.prog.mapsRec ·))) = true := by kernel_rfl
theorem fact14 : ((Rows.trialRightRow.ifaces == (Tryz.f5.params.toList ++ Rows.trialRightSpec.plain.varTypes Tryz.prog).any (Tryz.prog.ifacesRec ·))) = true := by kernel_rfl
theorem fact15 : ((Rows.trialRightRow.mapsOut == Tryz.prog.mapsAmong Tryz.f5.resultTypes.toList)) = true := by kernel_rfl
theorem fact16 : ((Rows.trialRightRow.loops == (Tryz.f5.params.toList ++ Rows.trialRightSpec.plain.varTypes Tryz.prog).any (Tryz.prog.loopsFrom ·))) = true := by kernel_rfl
theorem fact17 : ((Rows.trialRightRow.wideKeys == (Tryz.f5.params.toList ++ Rows.trialRightSpec.plain.varTypes Tryz.prog ++ Tryz.f5.resultTypes.toList).any (Tryz.prog.wideKeysFrom ·))) = true := by kernel_rfl
theorem fact18 : (Rows.trialRightSpec.vars.all (Tryz.prog.varReadable ·)) = true := by kernel_rfl
theorem fact19 : (Tryz.f5.resultTypes.all (fun t => Tryz.prog.readableRec t && decide (t < Tryz.prog.types.size))) = true := by kernel_rfl
theorem fact20 : ((Rows.trialRightRow.ifacesOut == Tryz.f5.resultTypes.toList.any (Tryz.prog.ifacesRec ·))) = true := by kernel_rfl
theorem fact21 : ((Rows.trialRightRow.loopsOut == Tryz.f5.resultTypes.toList.any (Tryz.prog.loopsFrom ·))) = true := by kernel_rfl
theorem fact22 : ((Rows.trialRightRow.plainKeys == Tryz.prog.plainKeys)) = true := by kernel_rfl
theorem fact23 : (Rows.trialRightRow.shortTexts.isNone) = true := by kernel_rfl
theorem fact26 : ((Rows.trialRightRow.lifted == Tryz.prog.liftsFinal)) = true := by kernel_rfl
theorem fact27 : ((Tryz.prog.make == some Rows.trialRightRow.make)) = true := by kernel_rfl
theorem fact29 : ((Rows.trialRightRow.pinned == Rows.trialRightRow.pinnedBy)) = true := by kernel_rfl
theorem fact30 : ((Rows.trialRightRow.veiled == (Tryz.f5.params.toList ++ Rows.trialRightSpec.plain.varTypes Tryz.prog ++ Tryz.f5.resultTypes.toList).any (Tryz.prog.veiledRec ·))) = true := by kernel_rfl
theorem fact31 : (Rows.trialRightRow.veiledFits Tryz.prog Tryz.f5.params.toList (Tryz.f5.params.toList ++ Rows.trialRightSpec.plain.varTypes Tryz.prog ++ Tryz.f5.resultTypes.toList)) = true := by kernel_rfl
theorem closed_one : joinedFacts Tryz.prog 5 Tryz.f5 Rows.trialRightSpec Rows.trialRightRow = true := joined_of fact0 pfact1 pfact2 fact3 fact4 fact5 pfact6 fact7 pfact8 fact9 fact10 fact11 fact12 fact13 fact14 fact15 fact16 fact17 fact18 fact19 fact20 fact21 fact22 fact23 pfact24 pfact25 fact26 fact27 (by kernel_rfl) fact29 fact30 fact31
theorem closed_two : joinedFacts Tryz.pinned.checked.prog 5 Tryz.f5 (OpenSpec.ofChange Rows.trialRightSpec).bare Rows.trialRightRow = true := Eq.trans (b := joinedFacts Tryz.prog 5 Tryz.f5 Rows.trialRightSpec Rows.trialRightRow) (by kernel_rfl) closed_one
end Go.Proofs.YtknjifhhfccfhaaGreatDoor
