/- The closed facts of the row EncNoMore. -/
import Derived.Test.YtiggbkhkmecagaaGreatDoorCards
import Derived.Test.YtiggbkhkmecagaaGreatDoorPF
import Derived.ProofKit
import Derived.OpenShut
import Derived.ShutString
import Derived.ChangeOld
import Derived.SizedLaws
import Derived.Deep.DeepHandedRow
import Derived.Lib.LaidTab
set_option linter.unusedVariables false
set_option linter.unusedSimpArgs false
namespace Go.Proofs.YtiggbkhkmecagaaGreatDoor
open Go.ChangeShapes Go.WideShapes Go.ChangeAt Go.RowKit

theorem fact0 : (Rows.encNoMoreRow.wf (OpenSpec.ofChange Rows.encNoMoreSpec)) = true := by kernel_rfl
theorem fact3 : (Tryz.f8.params.all (Tryz.prog.readableRec ·)) = true := by kernel_rfl
theorem fact4 : (namedTie Tryz.prog Rows.encNoMoreRow.named Rows.encNoMoreSpec.vars) = true := by kernel_rfl
theorem fact5 : ((Rows.encNoMoreRow.stops == [])) = true := by kernel_rfl
theorem fact7 : ((Rows.encNoMoreRow.knobs == [])) = true := by kernel_rfl
theorem fact9 : ((Rows.encNoMoreRow.inPlace == Tryz.prog.inPlace 8)) = true := by kernel_rfl
theorem fact10 : ((Rows.encNoMoreRow.unfollowed == Tryz.prog.unfollowed 8)) = true := by kernel_rfl
theorem fact11 : ((Rows.encNoMoreRow.recurses == Tryz.prog.recurses 8)) = true := by kernel_rfl
theorem fact12 : ((Rows.encNoMoreRow.named == Tryz.prog.varsNamed 8)) = true := by kernel_rfl
theorem fact13 : ((Rows.encNoMoreRow.maps == (Tryz.f8.params.toList ++ Rows.encNoMoreSpec.plain.varTypes Tryz.prog).any (Tryz.prog.mapsRec ·))) = true := by kernel_rfl
theorem fact14 : ((Rows.encNoMoreRow.ifaces == (Tryz.f8.params.toList ++ Rows.encNoMoreSpec.plain.varTypes Tryz.prog).any (Tryz.prog.ifacesRec ·))) = true := by kernel_rfl
theorem fact15 : ((Rows.encNoMoreRow.mapsOut == Tryz.prog.mapsAmong Tryz.f8.resultTypes.toList)) = true := by kernel_rfl
theorem fact16 : ((Rows.encNoMoreRow.loops == (Tryz.f8.params.toList ++ Rows.encNoMoreSpec.plain.varTypes Tryz.prog).any (Tryz.prog.loopsFrom ·))) = true := by kernel_rfl
theorem fact17 : ((Rows.encNoMoreRow.wideKeys == (Tryz.f8.params.toList ++ Rows.encNoMoreSpec.plain.varTypes Tryz.prog ++ Tryz.f8.resultTypes.toList).any (Tryz.prog.wideKeysFrom ·))) = true := by kernel_rfl
theorem fact18 : (Rows.encNoMoreSpec.vars.all (Tryz.prog.varReadable ·)) = true := by kernel_rfl
theorem fact19 : (Tryz.f8.resultTypes.all (fun t => Tryz.prog.readableRec t && decide (t < Tryz.prog.types.size))) = true := by kernel_rfl
theorem fact20 : ((Rows.encNoMoreRow.ifacesOut == Tryz.f8.resultTypes.toList.any (Tryz.prog.ifacesRec ·))) = true := by kernel_rfl
theorem fact21 : ((Rows.encNoMoreRow.loopsOut == Tryz.f8.resultTypes.toList.any (Tryz.prog.loopsFrom ·))) = true := by kernel_rfl
theorem fact22 : ((Rows.encNoMoreRow.plainKeys == Tryz.prog.plainKeys)) = true := by kernel_rfl
theorem fact23 : (Rows.encNoMoreRow.shortTexts.isNone) = true := by kernel_rfl
theorem fact26 : ((Rows.encNoMoreRow.lifted == Tryz.prog.liftsFinal)) = true := by kernel_rfl
theorem fact27 : ((Tryz.prog.make == some Rows.encNoMoreRow.make)) = true := by kernel_rfl
theorem fact29 : ((Rows.encNoMoreRow.pinned == Rows.encNoMoreRow.pinnedBy)) = true := by kernel_rfl
theorem fact30 : ((Rows.encNoMoreRow.veiled == (Tryz.f8.params.toList ++ Rows.encNoMoreSpec.plain.varTypes Tryz.prog ++ Tryz.f8.resultTypes.toList).any (Tryz.prog.veiledRec ·))) = true := by kernel_rfl
theorem fact31 : (Rows.encNoMoreRow.veiledFits Tryz.prog Tryz.f8.params.toList (Tryz.f8.params.toList ++ Rows.encNoMoreSpec.plain.varTypes Tryz.prog ++ Tryz.f8.resultTypes.toList)) = true := by kernel_rfl
theorem closed_one : joinedFacts Tryz.prog 8 Tryz.f8 Rows.encNoMoreSpec Rows.encNoMoreRow = true := joined_of fact0 pfact1 pfact2 fact3 fact4 fact5 pfact6 fact7 pfact8 fact9 fact10 fact11 fact12 fact13 fact14 fact15 fact16 fact17 fact18 fact19 fact20 fact21 fact22 fact23 pfact24 pfact25 fact26 fact27 (by kernel_rfl) fact29 fact30 fact31
theorem closed_two : joinedFacts Tryz.pinned.checked.prog 8 Tryz.f8 (OpenSpec.ofChange Rows.encNoMoreSpec).bare Rows.encNoMoreRow = true := Eq.trans (b := joinedFacts Tryz.prog 8 Tryz.f8 Rows.encNoMoreSpec Rows.encNoMoreRow) (by kernel_rfl) closed_one
end Go.Proofs.YtiggbkhkmecagaaGreatDoor
