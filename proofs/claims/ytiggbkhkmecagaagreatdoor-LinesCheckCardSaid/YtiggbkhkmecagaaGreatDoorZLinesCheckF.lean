/- The closed facts of the row LinesCheck. -/
import Derived.Test.YtiggbkhkmecagaaGreatDoorCards
import Derived.Test.YtiggbkhkmecagaaGreatDoorPF
import Derived.ProofKit
import Derived.OpenShut
import Derived.ShutString
import Derived.ChangeOld
import Derived.SizedLaws
import Derived.Deep.DeepHandedRow
import Derived.Lib.LaidTab
set_option linter.unusedVariables false
set_option linter.unusedSimpArgs false
namespace Go.Proofs.YtiggbkhkmecagaaGreatDoor
open Go.ChangeShapes Go.WideShapes Go.ChangeAt Go.RowKit

theorem fact0 : (Rows.linesCheckRow.wf (OpenSpec.ofChange Rows.linesCheckSpec)) = true := by kernel_rfl
theorem fact3 : (Tryz.f4.params.all (Tryz.prog.readableRec ·)) = true := by kernel_rfl
theorem fact4 : (namedTie Tryz.prog Rows.linesCheckRow.named Rows.linesCheckSpec.vars) = true := by kernel_rfl
theorem fact5 : ((Rows.linesCheckRow.stops == [])) = true := by kernel_rfl
theorem fact7 : ((Rows.linesCheckRow.knobs == [])) = true := by kernel_rfl
theorem fact9 : ((Rows.linesCheckRow.inPlace == Tryz.prog.inPlace 4)) = true := by kernel_rfl
theorem fact10 : ((Rows.linesCheckRow.unfollowed == Tryz.prog.unfollowed 4)) = true := by kernel_rfl
theorem fact11 : ((Rows.linesCheckRow.recurses == Tryz.prog.recurses 4)) = true := by kernel_rfl
theorem fact12 : ((Rows.linesCheckRow.named == Tryz.prog.varsNamed 4)) = true := by kernel_rfl
theorem fact13 : ((Rows.linesCheckRow.maps == (Tryz.f4.params.toList ++ Rows.linesCheckSpec.plain.varTypes Tryz.prog).any (Tryz.prog.mapsRec ·))) = true := by kernel_rfl
theorem fact14 : ((Rows.linesCheckRow.ifaces == (Tryz.f4.params.toList ++ Rows.linesCheckSpec.plain.varTypes Tryz.prog).any (Tryz.prog.ifacesRec ·))) = true := by kernel_rfl
theorem fact15 : ((Rows.linesCheckRow.mapsOut == Tryz.prog.mapsAmong Tryz.f4.resultTypes.toList)) = true := by kernel_rfl
theorem fact16 : ((Rows.linesCheckRow.loops == (Tryz.f4.params.toList ++ Rows.linesCheckSpec.plain.varTypes Tryz.prog).any (Tryz.prog.loopsFrom ·))) = true := by kernel_rfl
theorem fact17 : ((Rows.linesCheckRow.wideKeys == (Tryz.f4.params.toList ++ Rows.linesCheckSpec.plain.varTypes Tryz.prog ++ Tryz.f4.resultTypes.toList).any (Tryz.prog.wideKeysFrom ·))) = true := by kernel_rfl
theorem fact18 : (Rows.linesCheckSpec.vars.all (Tryz.prog.varReadable ·)) = true := by kernel_rfl
theorem fact19 : (Tryz.f4.resultTypes.all (fun t => Tryz.prog.readableRec t && decide (t < Tryz.prog.types.size))) = true := by kernel_rfl
theorem fact20 : ((Rows.linesCheckRow.ifacesOut == Tryz.f4.resultTypes.toList.any (Tryz.prog.ifacesRec ·))) = true := by kernel_rfl
theorem fact21 : ((Rows.linesCheckRow.loopsOut == Tryz.f4.resultTypes.toList.any (Tryz.prog.loopsFrom ·))) = true := by kernel_rfl
theorem fact22 : ((Rows.linesCheckRow.plainKeys == Tryz.prog.plainKeys)) = true := by kernel_rfl
theorem fact23 : (Rows.linesCheckRow.shortTexts.isNone) = true := by kernel_rfl
theorem fact26 : ((Rows.linesCheckRow.lifted == Tryz.prog.liftsFinal)) = true := by kernel_rfl
theorem fact27 : ((Tryz.prog.make == some Rows.linesCheckRow.make)) = true := by kernel_rfl
theorem fact29 : ((Rows.linesCheckRow.pinned == Rows.linesCheckRow.pinnedBy)) = true := by kernel_rfl
theorem fact30 : ((Rows.linesCheckRow.veiled == (Tryz.f4.params.toList ++ Rows.linesCheckSpec.plain.varTypes Tryz.prog ++ Tryz.f4.resultTypes.toList).any (Tryz.prog.veiledRec ·))) = true := by kernel_rfl
theorem fact31 : (Rows.linesCheckRow.veiledFits Tryz.prog Tryz.f4.params.toList (Tryz.f4.params.toList ++ Rows.linesCheckSpec.plain.varTypes Tryz.prog ++ Tryz.f4.resultTypes.toList)) = true := by kernel_rfl
theorem closed_one : joinedFacts Tryz.prog 4 Tryz.f4 Rows.linesCheckSpec Rows.linesCheckRow = true := joined_of fact0 pfact1 pfact2 fact3 fact4 fact5 pfact6 fact7 pfact8 fact9 fact10 fact11 fact12 fact13 fact14 fact15 fact16 fact17 fact18 fact19 fact20 fact21 fact22 fact23 pfact24 pfact25 fact26 fact27 (by kernel_rfl) fact29 fact30 fact31
theorem closed_two : joinedFacts Tryz.pinned.checked.prog 4 Tryz.f4 (OpenSpec.ofChange Rows.linesCheckSpec).bare Rows.linesCheckRow = true := Eq.trans (b := joinedFacts Tryz.prog 4 Tryz.f4 Rows.linesCheckSpec Rows.linesCheckRow) (by kernel_rfl) closed_one
end Go.Proofs.YtiggbkhkmecagaaGreatDoor
