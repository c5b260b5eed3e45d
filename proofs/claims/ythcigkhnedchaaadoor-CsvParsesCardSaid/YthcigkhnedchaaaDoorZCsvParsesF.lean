/- The closed facts of the row CsvParses. -/
import Derived.Test.YthcigkhnedchaaaDoorCards
import Derived.Test.YthcigkhnedchaaaDoorPF
import Derived.ProofKit
import Derived.OpenShut
import Derived.ShutString
import Derived.ChangeOld
import Derived.SizedLaws
import Derived.Deep.DeepHandedRow
import Derived.Lib.LaidTab
set_option linter.unusedVariables false
set_option linter.unusedSimpArgs false
namespace Go.Proofs.YthcigkhnedchaaaDoor
open Go.ChangeShapes Go.WideShapes Go.ChangeAt Go.RowKit

theorem fact0 : (Rows.csvParsesRow.wf (OpenSpec.ofChange Rows.csvParsesSpec)) = true := by kernel_rfl
theorem fact3 : (Tryd.f3.params.all (Tryd.prog.readableRec ·)) = true := by kernel_rfl
theorem fact4 : (namedTie Tryd.prog Rows.csvParsesRow.named Rows.csvParsesSpec.vars) = true := by kernel_rfl
theorem fact5 : ((Rows.csvParsesRow.stops == [])) = true := by kernel_rfl
theorem fact7 : ((Rows.csvParsesRow.knobs == [])) = true := by kernel_rfl
theorem fact9 : ((Rows.csvParsesRow.inPlace == Tryd.prog.inPlace 3)) = true := by kernel_rfl
theorem fact10 : ((Rows.csvParsesRow.unfollowed == Tryd.prog.unfollowed 3)) = true := by kernel_rfl
theorem fact11 : ((Rows.csvParsesRow.recurses == Tryd.prog.recurses 3)) = true := by kernel_rfl
theorem fact12 : ((Rows.csvParsesRow.named == Tryd.prog.varsNamed 3)) = true := by kernel_rfl
theorem fact13 : ((Rows.csvParsesRow.maps == (Tryd.f3.params.toList ++ Rows.csvParsesSpec.plain.varTypes Tryd.prog).any (Tryd.prog.mapsRec ·))) = true := by kernel_rfl
theorem fact14 : ((Rows.csvParsesRow.ifaces == (Tryd.f3.params.toList ++ Rows.csvParsesSpec.plain.varTypes Tryd.prog).any (Tryd.prog.ifacesRec ·))) = true := by kernel_rfl
theorem fact15 : ((Rows.csvParsesRow.mapsOut == Tryd.prog.mapsAmong Tryd.f3.resultTypes.toList)) = true := by kernel_rfl
theorem fact16 : ((Rows.csvParsesRow.loops == (Tryd.f3.params.toList ++ Rows.csvParsesSpec.plain.varTypes Tryd.prog).any (Tryd.prog.loopsFrom ·))) = true := by kernel_rfl
theorem fact17 : ((Rows.csvParsesRow.wideKeys == (Tryd.f3.params.toList ++ Rows.csvParsesSpec.plain.varTypes Tryd.prog ++ Tryd.f3.resultTypes.toList).any (Tryd.prog.wideKeysFrom ·))) = true := by kernel_rfl
theorem fact18 : (Rows.csvParsesSpec.vars.all (Tryd.prog.varReadable ·)) = true := by kernel_rfl
theorem fact19 : (Tryd.f3.resultTypes.all (fun t => Tryd.prog.readableRec t && decide (t < Tryd.prog.types.size))) = true := by kernel_rfl
theorem fact20 : ((Rows.csvParsesRow.ifacesOut == Tryd.f3.resultTypes.toList.any (Tryd.prog.ifacesRec ·))) = true := by kernel_rfl
theorem fact21 : ((Rows.csvParsesRow.loopsOut == Tryd.f3.resultTypes.toList.any (Tryd.prog.loopsFrom ·))) = true := by kernel_rfl
theorem fact22 : ((Rows.csvParsesRow.plainKeys == Tryd.prog.plainKeys)) = true := by kernel_rfl
theorem fact23 : (Rows.csvParsesRow.shortTexts.isNone) = true := by kernel_rfl
theorem fact26 : ((Rows.csvParsesRow.lifted == Tryd.prog.liftsFinal)) = true := by kernel_rfl
theorem fact27 : ((Tryd.prog.make == some Rows.csvParsesRow.make)) = true := by kernel_rfl
theorem fact29 : ((Rows.csvParsesRow.pinned == Rows.csvParsesRow.pinnedBy)) = true := by kernel_rfl
theorem fact30 : ((Rows.csvParsesRow.veiled == (Tryd.f3.params.toList ++ Rows.csvParsesSpec.plain.varTypes Tryd.prog ++ Tryd.f3.resultTypes.toList).any (Tryd.prog.veiledRec ·))) = true := by kernel_rfl
theorem fact31 : (Rows.csvParsesRow.veiledFits Tryd.prog Tryd.f3.params.toList (Tryd.f3.params.toList ++ Rows.csvParsesSpec.plain.varTypes Tryd.prog ++ Tryd.f3.resultTypes.toList)) = true := by kernel_rfl
theorem closed_one : joinedFacts Tryd.prog 3 Tryd.f3 Rows.csvParsesSpec Rows.csvParsesRow = true := joined_of fact0 pfact1 pfact2 fact3 fact4 fact5 pfact6 fact7 pfact8 fact9 fact10 fact11 fact12 fact13 fact14 fact15 fact16 fact17 fact18 fact19 fact20 fact21 fact22 fact23 pfact24 pfact25 fact26 fact27 (by kernel_rfl) fact29 fact30 fact31
theorem closed_two : joinedFacts Tryd.pinned.checked.prog 3 Tryd.f3 (OpenSpec.ofChange Rows.csvParsesSpec).bare Rows.csvParsesRow = true := Eq.trans (b := joinedFacts Tryd.prog 3 Tryd.f3 Rows.csvParsesSpec Rows.csvParsesRow) (by kernel_rfl) closed_one
end Go.Proofs.YthcigkhnedchaaaDoor
