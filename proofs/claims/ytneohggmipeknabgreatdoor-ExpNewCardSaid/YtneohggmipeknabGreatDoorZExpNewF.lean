/- The closed facts of the row ExpNew. -/
import Derived.Test.YtneohggmipeknabGreatDoorCards
import Derived.Test.YtneohggmipeknabGreatDoorPF
import Derived.ProofKit
import Derived.OpenShut
import Derived.ShutString
import Derived.ChangeOld
import Derived.SizedLaws
import Derived.Deep.DeepHandedRow
import Derived.Lib.LaidTab
set_option linter.unusedVariables false
set_option linter.unusedSimpArgs false
namespace Go.Proofs.YtneohggmipeknabGreatDoor
open Go.ChangeShapes Go.WideShapes Go.ChangeAt Go.RowKit

theorem fact0 : (Rows.expNewRow.wf (OpenSpec.ofChange Rows.expNewSpec)) = true := by kernel_rfl
theorem fact3 : (Tryz.f4.params.all (Tryz.prog.readableRec ·)) = true := by kernel_rfl
theorem fact4 : (namedTie Tryz.prog Rows.expNewRow.named Rows.expNewSpec.vars) = true := by kernel_rfl
theorem fact5 : ((Rows.expNewRow.stops == [])) = true := by kernel_rfl
theorem fact7 : ((Rows.expNewRow.knobs == [])) = true := by kernel_rfl
theorem fact9 : ((Rows.expNewRow.inPlace == Tryz.prog.inPlace 4)) = true := by kernel_rfl
theorem fact10 : ((Rows.expNewRow.unfollowed == Tryz.prog.unfollowed 4)) = true := by kernel_rfl
theorem fact11 : ((Rows.expNewRow.recurses == Tryz.prog.recurses 4)) = true := by kernel_rfl
theorem fact12 : ((Rows.expNewRow.named == Tryz.prog.varsNamed 4)) = true := by kernel_rfl
theorem fact13 : ((Rows.expNewRow.maps == (Tryz.f4.params.toList ++ Rows.expNewSpec.plain.varTypes Tryz.prog).any (Tryz.prog.mapsRec ·))) = true := by kernel_rfl
theorem fact14 : ((Rows.expNewRow.ifaces == (Tryz.f4.params.toList ++ Rows.expNewSpec.plain.varTypes Tryz.prog).any (Tryz.prog.ifacesRec ·))) = true := by kernel_rfl
theorem fact15 : ((Rows.expNewRow.mapsOut == Tryz.prog.mapsAmong Tryz.f4.resultTypes.toList)) = true := by kernel_rfl
theorem fact16 : ((Rows.expNewRow.loops == (Tryz.f4.params.toList ++ Rows.expNewSpec.plain.varTypes Tryz.prog).any (Tryz.prog.loopsFrom ·))) = true := by kernel_rfl
theorem fact17 : ((Rows.expNewRow.wideKeys == (Tryz.f4.params.toList ++ Rows.expNewSpec.plain.varTypes Tryz.prog ++ Tryz.f4.resultTypes.toList).any (Tryz.prog.wideKeysFrom ·))) = true := by kernel_rfl
theorem fact18 : (Rows.expNewSpec.vars.all (Tryz.prog.varReadable ·)) = true := by kernel_rfl
theorem fact19 : (Tryz.f4.resultTypes.all (fun t => Tryz.prog.readableRec t && decide (t < Tryz.prog.types.size))) = true := by kernel_rfl
theorem fact20 : ((Rows.expNewRow.ifacesOut == Tryz.f4.resultTypes.toList.any (Tryz.prog.ifacesRec ·))) = true := by kernel_rfl
theorem fact21 : ((Rows.expNewRow.loopsOut == Tryz.f4.resultTypes.toList.any (Tryz.prog.loopsFrom ·))) = true := by kernel_rfl
theorem fact22 : ((Rows.expNewRow.plainKeys == Tryz.prog.plainKeys)) = true := by kernel_rfl
theorem fact23 : (Rows.expNewRow.shortTexts.isNone) = true := by kernel_rfl
theorem fact26 : ((Rows.expNewRow.lifted == Tryz.prog.liftsFinal)) = true := by kernel_rfl
theorem fact27 : ((Tryz.prog.make == some Rows.expNewRow.make)) = true := by kernel_rfl
theorem fact29 : ((Rows.expNewRow.pinned == Rows.expNewRow.pinnedBy)) = true := by kernel_rfl
theorem fact30 : ((Rows.expNewRow.veiled == (Tryz.f4.params.toList ++ Rows.expNewSpec.plain.varTypes Tryz.prog ++ Tryz.f4.resultTypes.toList).any (Tryz.prog.veiledRec ·))) = true := by kernel_rfl
theorem fact31 : (Rows.expNewRow.veiledFits Tryz.prog Tryz.f4.params.toList (Tryz.f4.params.toList ++ Rows.expNewSpec.plain.varTypes Tryz.prog ++ Tryz.f4.resultTypes.toList)) = true := by kernel_rfl
theorem closed_one : joinedFacts Tryz.prog 4 Tryz.f4 Rows.expNewSpec Rows.expNewRow = true := joined_of fact0 pfact1 pfact2 fact3 fact4 fact5 pfact6 fact7 pfact8 fact9 fact10 fact11 fact12 fact13 fact14 fact15 fact16 fact17 fact18 fact19 fact20 fact21 fact22 fact23 pfact24 pfact25 fact26 fact27 (by kernel_rfl) fact29 fact30 fact31
theorem closed_two : joinedFacts Tryz.pinned.checked.prog 4 Tryz.f4 (OpenSpec.ofChange Rows.expNewSpec).bare Rows.expNewRow = true := Eq.trans (b := joinedFacts Tryz.prog 4 Tryz.f4 Rows.expNewSpec Rows.expNewRow) (by kernel_rfl) closed_one
end Go.Proofs.YtneohggmipeknabGreatDoor
