/- The closed facts of the row CsvBack. -/
import Derived.Test.YthcigkhnedchaaaDoorCards
import Derived.Test.YthcigkhnedchaaaDoorPF
import Derived.ProofKit
import Derived.OpenShut
import Derived.ShutString
import Derived.ChangeOld
import Derived.SizedLaws
import Derived.Deep.DeepHandedRow
import Derived.Lib.LaidTab
set_option linter.unusedVariables false
set_option linter.unusedSimpArgs false
namespace Go.Proofs.YthcigkhnedchaaaDoor
open Go.ChangeShapes Go.WideShapes Go.ChangeAt Go.RowKit

theorem fact0 : (Rows.csvBackRow.wf (OpenSpec.ofChange Rows.csvBackSpec)) = true := by kernel_rfl
theorem fact3 : (Tryd.f4.params.all (Tryd.prog.readableRec ·)) = true := by kernel_rfl
theorem fact4 : (namedTie Tryd.prog Rows.csvBackRow.named Rows.csvBackSpec.vars) = true := by kernel_rfl
theorem fact5 : ((Rows.csvBackRow.stops == [])) = true := by kernel_rfl
theorem fact7 : ((Rows.csvBackRow.knobs == [])) = true := by kernel_rfl
theorem fact9 : ((Rows.csvBackRow.inPlace == Tryd.prog.inPlace 4)) = true := by kernel_rfl
theorem fact10 : ((Rows.csvBackRow.unfollowed == Tryd.prog.unfollowed 4)) = true := by kernel_rfl
theorem fact11 : ((Rows.csvBackRow.recurses == Tryd.prog.recurses 4)) = true := by kernel_rfl
theorem fact12 : ((Rows.csvBackRow.named == Tryd.prog.varsNamed 4)) = true := by kernel_rfl
theorem fact13 : ((Rows.csvBackRow.maps == (Tryd.f4.params.toList ++ Rows.csvBackSpec.plain.varTypes Tryd.prog).any (Tryd.prog.mapsRec ·))) = true := by kernel_rfl
theorem fact14 : ((Rows.csvBackRow.ifaces == (Tryd.f4.params.toList ++ Rows.csvBackSpec.plain.varTypes Tryd.prog).any (Tryd.prog.ifacesRec ·))) = true := by kernel_rfl
theorem fact15 : ((Rows.csvBackRow.mapsOut == Tryd.prog.mapsAmong Tryd.f4.resultTypes.toList)) = true := by kernel_rfl
theorem fact16 : ((Rows.csvBackRow.loops == (Tryd.f4.params.toList ++ Rows.csvBackSpec.plain.varTypes Tryd.prog).any (Tryd.prog.loopsFrom ·))) = true := by kernel_rfl
theorem fact17 : ((Rows.csvBackRow.wideKeys == (Tryd.f4.params.toList ++ Rows.csvBackSpec.plain.varTypes Tryd.prog ++ Tryd.f4.resultTypes.toList).any (Tryd.prog.wideKeysFrom ·))) = true := by kernel_rfl
theorem fact18 : (Rows.csvBackSpec.vars.all (Tryd.prog.varReadable ·)) = true := by kernel_rfl
theorem fact19 : (Tryd.f4.resultTypes.all (fun t => Tryd.prog.readableRec t && decide (t < Tryd.prog.types.size))) = true := by kernel_rfl
theorem fact20 : ((Rows.csvBackRow.ifacesOut == Tryd.f4.resultTypes.toList.any (Tryd.prog.ifacesRec ·))) = true := by kernel_rfl
theorem fact21 : ((Rows.csvBackRow.loopsOut == Tryd.f4.resultTypes.toList.any (Tryd.prog.loopsFrom ·))) = true := by kernel_rfl
theorem fact22 : ((Rows.csvBackRow.plainKeys == Tryd.prog.plainKeys)) = true := by kernel_rfl
theorem fact23 : (Rows.csvBackRow.shortTexts.isNone) = true := by kernel_rfl
theorem fact26 : ((Rows.csvBackRow.lifted == Tryd.prog.liftsFinal)) = true := by kernel_rfl
theorem fact27 : ((Tryd.prog.make == some Rows.csvBackRow.make)) = true := by kernel_rfl
theorem fact29 : ((Rows.csvBackRow.pinned == Rows.csvBackRow.pinnedBy)) = true := by kernel_rfl
theorem fact30 : ((Rows.csvBackRow.veiled == (Tryd.f4.params.toList ++ Rows.csvBackSpec.plain.varTypes Tryd.prog ++ Tryd.f4.resultTypes.toList).any (Tryd.prog.veiledRec ·))) = true := by kernel_rfl
theorem fact31 : (Rows.csvBackRow.veiledFits Tryd.prog Tryd.f4.params.toList (Tryd.f4.params.toList ++ Rows.csvBackSpec.plain.varTypes Tryd.prog ++ Tryd.f4.resultTypes.toList)) = true := by kernel_rfl
theorem closed_one : joinedFacts Tryd.prog 4 Tryd.f4 Rows.csvBackSpec Rows.csvBackRow = true := joined_of fact0 pfact1 pfact2 fact3 fact4 fact5 pfact6 fact7 pfact8 fact9 fact10 fact11 fact12 fact13 fact14 fact15 fact16 fact17 fact18 fact19 fact20 fact21 fact22 fact23 pfact24 pfact25 fact26 fact27 (by kernel_rfl) fact29 fact30 fact31
theorem closed_two : joinedFacts Tryd.pinned.checked.prog 4 Tryd.f4 (OpenSpec.ofChange Rows.csvBackSpec).bare Rows.csvBackRow = true := Eq.trans (b := joinedFacts Tryd.prog 4 Tryd.f4 Rows.csvBackSpec Rows.csvBackRow) (by kernel_rfl) closed_one
end Go.Proofs.YthcigkhnedchaaaDoor
