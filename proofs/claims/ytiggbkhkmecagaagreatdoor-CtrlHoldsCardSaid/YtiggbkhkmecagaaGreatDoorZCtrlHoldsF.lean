/- The closed facts of the row CtrlHolds. -/
import Derived.Test.YtiggbkhkmecagaaGreatDoorCards
import Derived.Test.YtiggbkhkmecagaaGreatDoorPF
import Derived.ProofKit
import Derived.OpenShut
import Derived.ShutString
import Derived.ChangeOld
import Derived.SizedLaws
import Derived.Deep.DeepHandedRow
import Derived.Lib.LaidTab
set_option linter.unusedVariables false
set_option linter.unusedSimpArgs false
namespace Go.Proofs.YtiggbkhkmecagaaGreatDoor
open Go.ChangeShapes Go.WideShapes Go.ChangeAt Go.RowKit

theorem fact0 : (Rows.ctrlHoldsRow.wf (OpenSpec.ofChange Rows.ctrlHoldsSpec)) = true := by kernel_rfl
theorem fact3 : (Tryz.f9.params.all (Tryz.prog.readableRec ·)) = true := by kernel_rfl
theorem fact4 : (namedTie Tryz.prog Rows.ctrlHoldsRow.named Rows.ctrlHoldsSpec.vars) = true := by kernel_rfl
theorem fact5 : ((Rows.ctrlHoldsRow.stops == [])) = true := by kernel_rfl
theorem fact7 : ((Rows.ctrlHoldsRow.knobs == [])) = true := by kernel_rfl
theorem fact9 : ((Rows.ctrlHoldsRow.inPlace == Tryz.prog.inPlace 9)) = true := by kernel_rfl
theorem fact10 : ((Rows.ctrlHoldsRow.unfollowed == Tryz.prog.unfollowed 9)) = true := by kernel_rfl
theorem fact11 : ((Rows.ctrlHoldsRow.recurses == Tryz.prog.recurses 9)) = true := by kernel_rfl
theorem fact12 : ((Rows.ctrlHoldsRow.named == Tryz.prog.varsNamed 9)) = true := by kernel_rfl
theorem fact13 : ((Rows.ctrlHoldsRow.maps == (Tryz.f9.params.toList ++ Rows.ctrlHoldsSpec.plain.varTypes Tryz.prog).any (Tryz.prog.mapsRec ·))) = true := by kernel_rfl
theorem fact14 : ((Rows.ctrlHoldsRow.ifaces == (Tryz.f9.params.toList ++ Rows.ctrlHoldsSpec.plain.varTypes Tryz.prog).any (Tryz.prog.ifacesRec ·))) = true := by kernel_rfl
theorem fact15 : ((Rows.ctrlHoldsRow.mapsOut == Tryz.prog.mapsAmong Tryz.f9.resultTypes.toList)) = true := by kernel_rfl
theorem fact16 : ((Rows.ctrlHoldsRow.loops == (Tryz.f9.params.toList ++ Rows.ctrlHoldsSpec.plain.varTypes Tryz.prog).any (Tryz.prog.loopsFrom ·))) = true := by kernel_rfl
theorem fact17 : ((Rows.ctrlHoldsRow.wideKeys == (Tryz.f9.params.toList ++ Rows.ctrlHoldsSpec.plain.varTypes Tryz.prog ++ Tryz.f9.resultTypes.toList).any (Tryz.prog.wideKeysFrom ·))) = true := by kernel_rfl
theorem fact18 : (Rows.ctrlHoldsSpec.vars.all (Tryz.prog.varReadable ·)) = true := by kernel_rfl
theorem fact19 : (Tryz.f9.resultTypes.all (fun t => Tryz.prog.readableRec t && decide (t < Tryz.prog.types.size))) = true := by kernel_rfl
theorem fact20 : ((Rows.ctrlHoldsRow.ifacesOut == Tryz.f9.resultTypes.toList.any (Tryz.prog.ifacesRec ·))) = true := by kernel_rfl
theorem fact21 : ((Rows.ctrlHoldsRow.loopsOut == Tryz.f9.resultTypes.toList.any (Tryz.prog.loopsFrom ·))) = true := by kernel_rfl
theorem fact22 : ((Rows.ctrlHoldsRow.plainKeys == Tryz.prog.plainKeys)) = true := by kernel_rfl
theorem fact23 : (Rows.ctrlHoldsRow.shortTexts.isNone) = true := by kernel_rfl
theorem fact26 : ((Rows.ctrlHoldsRow.lifted == Tryz.prog.liftsFinal)) = true := by kernel_rfl
theorem fact27 : ((Tryz.prog.make == some Rows.ctrlHoldsRow.make)) = true := by kernel_rfl
theorem fact29 : ((Rows.ctrlHoldsRow.pinned == Rows.ctrlHoldsRow.pinnedBy)) = true := by kernel_rfl
theorem fact30 : ((Rows.ctrlHoldsRow.veiled == (Tryz.f9.params.toList ++ Rows.ctrlHoldsSpec.plain.varTypes Tryz.prog ++ Tryz.f9.resultTypes.toList).any (Tryz.prog.veiledRec ·))) = true := by kernel_rfl
theorem fact31 : (Rows.ctrlHoldsRow.veiledFits Tryz.prog Tryz.f9.params.toList (Tryz.f9.params.toList ++ Rows.ctrlHoldsSpec.plain.varTypes Tryz.prog ++ Tryz.f9.resultTypes.toList)) = true := by kernel_rfl
theorem closed_one : joinedFacts Tryz.prog 9 Tryz.f9 Rows.ctrlHoldsSpec Rows.ctrlHoldsRow = true := joined_of fact0 pfact1 pfact2 fact3 fact4 fact5 pfact6 fact7 pfact8 fact9 fact10 fact11 fact12 fact13 fact14 fact15 fact16 fact17 fact18 fact19 fact20 fact21 fact22 fact23 pfact24 pfact25 fact26 fact27 (by kernel_rfl) fact29 fact30 fact31
theorem closed_two : joinedFacts Tryz.pinned.checked.prog 9 Tryz.f9 (OpenSpec.ofChange Rows.ctrlHoldsSpec).bare Rows.ctrlHoldsRow = true := Eq.trans (b := joinedFacts Tryz.prog 9 Tryz.f9 Rows.ctrlHoldsSpec Rows.ctrlHoldsRow) (by kernel_rfl) closed_one
end Go.Proofs.YtiggbkhkmecagaaGreatDoor
