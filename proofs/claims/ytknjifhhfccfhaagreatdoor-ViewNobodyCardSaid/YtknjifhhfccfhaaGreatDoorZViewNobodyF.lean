/- The closed facts of the row ViewNobody. -/
import Derived.Test.YtknjifhhfccfhaaGreatDoorCards
import Derived.Test.YtknjifhhfccfhaaGreatDoorPF
import Derived.ProofKit
import Derived.OpenShut
import Derived.ShutString
import Derived.ChangeOld
import Derived.SizedLaws
import Derived.Deep.DeepHandedRow
import Derived.Lib.LaidTab
set_option linter.unusedVariables false
set_option linter.unusedSimpArgs false
namespace Go.Proofs.YtknjifhhfccfhaaGreatDoor
open Go.ChangeShapes Go.WideShapes Go.ChangeAt Go.RowKit

theorem fact0 : (Rows.viewNobodyRow.wf (OpenSpec.ofChange Rows.viewNobodySpec)) = true := by kernel_rfl
theorem fact3 : (Tryz.f3.params.all (Tryz.prog.readableRec ·)) = true := by kernel_rfl
theorem fact4 : (namedTie Tryz.prog Rows.viewNobodyRow.named Rows.viewNobodySpec.vars) = true := by kernel_rfl
theorem fact5 : ((Rows.viewNobodyRow.stops == [])) = true := by kernel_rfl
theorem fact7 : ((Rows.viewNobodyRow.knobs == [])) = true := by kernel_rfl
theorem fact9 : ((Rows.viewNobodyRow.inPlace == Tryz.prog.inPlace 3)) = true := by kernel_rfl
theorem fact10 : ((Rows.viewNobodyRow.unfollowed == Tryz.prog.unfollowed 3)) = true := by kernel_rfl
theorem fact11 : ((Rows.viewNobodyRow.recurses == Tryz.prog.recurses 3)) = true := by kernel_rfl
theorem fact12 : ((Rows.viewNobodyRow.named == Tryz.prog.varsNamed 3)) = true := by kernel_rfl
theorem fact13 : ((Rows.viewNobodyRow.maps == (Tryz.f3.params.toList ++ Rows.viewNobodySpec.plain.varTypes Tryz.prog).any (Tryz.prog.mapsRec ·))) = true := by kernel_rfl
theorem fact14 : ((Rows.viewNobodyRow.ifaces == (Tryz.f3.params.toList ++ Rows.viewNobodySpec.plain.varTypes Tryz.prog).any (Tryz.prog.ifacesRec ·))) = true := by kernel_rfl
theorem fact15 : ((Rows.viewNobodyRow.mapsOut == Tryz.prog.mapsAmong Tryz.f3.resultTypes.toList)) = true := by kernel_rfl
theorem fact16 : ((Rows.viewNobodyRow.loops == (Tryz.f3.params.toList ++ Rows.viewNobodySpec.plain.varTypes Tryz.prog).any (Tryz.prog.loopsFrom ·))) = true := by kernel_rfl
theorem fact17 : ((Rows.viewNobodyRow.wideKeys == (Tryz.f3.params.toList ++ Rows.viewNobodySpec.plain.varTypes Tryz.prog ++ Tryz.f3.resultTypes.toList).any (Tryz.prog.wideKeysFrom ·))) = true := by kernel_rfl
theorem fact18 : (Rows.viewNobodySpec.vars.all (Tryz.prog.varReadable ·)) = true := by kernel_rfl
theorem fact19 : (Tryz.f3.resultTypes.all (fun t => Tryz.prog.readableRec t && decide (t < Tryz.prog.types.size))) = true := by kernel_rfl
theorem fact20 : ((Rows.viewNobodyRow.ifacesOut == Tryz.f3.resultTypes.toList.any (Tryz.prog.ifacesRec ·))) = true := by kernel_rfl
theorem fact21 : ((Rows.viewNobodyRow.loopsOut == Tryz.f3.resultTypes.toList.any (Tryz.prog.loopsFrom ·))) = true := by kernel_rfl
theorem fact22 : ((Rows.viewNobodyRow.plainKeys == Tryz.prog.plainKeys)) = true := by kernel_rfl
theorem fact23 : (Rows.viewNobodyRow.shortTexts.isNone) = true := by kernel_rfl
theorem fact26 : ((Rows.viewNobodyRow.lifted == Tryz.prog.liftsFinal)) = true := by kernel_rfl
theorem fact27 : ((Tryz.prog.make == some Rows.viewNobodyRow.make)) = true := by kernel_rfl
theorem fact29 : ((Rows.viewNobodyRow.pinned == Rows.viewNobodyRow.pinnedBy)) = true := by kernel_rfl
theorem fact30 : ((Rows.viewNobodyRow.veiled == (Tryz.f3.params.toList ++ Rows.viewNobodySpec.plain.varTypes Tryz.prog ++ Tryz.f3.resultTypes.toList).any (Tryz.prog.veiledRec ·))) = true := by kernel_rfl
theorem fact31 : (Rows.viewNobodyRow.veiledFits Tryz.prog Tryz.f3.params.toList (Tryz.f3.params.toList ++ Rows.viewNobodySpec.plain.varTypes Tryz.prog ++ Tryz.f3.resultTypes.toList)) = true := by kernel_rfl
theorem closed_one : joinedFacts Tryz.prog 3 Tryz.f3 Rows.viewNobodySpec Rows.viewNobodyRow = true := joined_of fact0 pfact1 pfact2 fact3 fact4 fact5 pfact6 fact7 pfact8 fact9 fact10 fact11 fact12 fact13 fact14 fact15 fact16 fact17 fact18 fact19 fact20 fact21 fact22 fact23 pfact24 pfact25 fact26 fact27 (by kernel_rfl) fact29 fact30 fact31
theorem closed_two : joinedFacts Tryz.pinned.checked.prog 3 Tryz.f3 (OpenSpec.ofChange Rows.viewNobodySpec).bare Rows.viewNobodyRow = true := Eq.trans (b := joinedFacts Tryz.prog 3 Tryz.f3 Rows.viewNobodySpec Rows.viewNobodyRow) (by kernel_rfl) closed_one
end Go.Proofs.YtknjifhhfccfhaaGreatDoor
