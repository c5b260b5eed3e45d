/- The closed facts of the row EncNew. -/
import Derived.Test.YtiggbkhkmecagaaGreatDoorCards
import Derived.Test.YtiggbkhkmecagaaGreatDoorPF
import Derived.ProofKit
import Derived.OpenShut
import Derived.ShutString
import Derived.ChangeOld
import Derived.SizedLaws
import Derived.Deep.DeepHandedRow
import Derived.Lib.LaidTab
set_option linter.unusedVariables false
set_option linter.unusedSimpArgs false
namespace Go.Proofs.YtiggbkhkmecagaaGreatDoor
open Go.ChangeShapes Go.WideShapes Go.ChangeAt Go.RowKit

theorem fact0 : (Rows.encNewRow.wf (OpenSpec.ofChange Rows.encNewSpec)) = true := by kernel_rfl
theorem fact3 : (Tryz.f11.params.all (Tryz.prog.readableRec ·)) = true := by kernel_rfl
theorem fact4 : (namedTie Tryz.prog Rows.encNewRow.named Rows.encNewSpec.vars) = true := by kernel_rfl
theorem fact5 : ((Rows.encNewRow.stops == [])) = true := by kernel_rfl
theorem fact7 : ((Rows.encNewRow.knobs == [])) = true := by kernel_rfl
theorem fact9 : ((Rows.encNewRow.inPlace == Tryz.prog.inPlace 11)) = true := by kernel_rfl
theorem fact10 : ((Rows.encNewRow.unfollowed == Tryz.prog.unfollowed 11)) = true := by kernel_rfl
theorem fact11 : ((Rows.encNewRow.recurses == Tryz.prog.recurses 11)) = true := by kernel_rfl
theorem fact12 : ((Rows.encNewRow.named == Tryz.prog.varsNamed 11)) = true := by kernel_rfl
theorem fact13 : ((Rows.encNewRow.maps == (Tryz.f11.params.toList ++ Rows.encNewSpec.plain.varTypes Tryz.prog).any (Tryz.prog.mapsRec ·))) = true := by kernel_rfl
theorem fact14 : ((Rows.encNewRow.ifaces == (Tryz.f11.params.toList ++ Rows.encNewSpec.plain.varTypes Tryz.prog).any (Tryz.prog.ifacesRec ·))) = true := by kernel_rfl
theorem fact15 : ((Rows.encNewRow.mapsOut == Tryz.prog.mapsAmong Tryz.f11.resultTypes.toList)) = true := by kernel_rfl
theorem fact16 : ((Rows.encNewRow.loops == (Tryz.f11.params.toList ++ Rows.encNewSpec.plain.varTypes Tryz.prog).any (Tryz.prog.loopsFrom ·))) = true := by kernel_rfl
theorem fact17 : ((Rows.encNewRow.wideKeys == (Tryz.f11.params.toList ++ Rows.encNewSpec.plain.varTypes Tryz.prog ++ Tryz.f11.resultTypes.toList).any (Tryz.prog.wideKeysFrom ·))) = true := by kernel_rfl
theorem fact18 : (Rows.encNewSpec.vars.all (Tryz.prog.varReadable ·)) = true := by kernel_rfl
theorem fact19 : (Tryz.f11.resultTypes.all (fun t => Tryz.prog.readableRec t && decide (t < Tryz.prog.types.size))) = true := by kernel_rfl
theorem fact20 : ((Rows.encNewRow.ifacesOut == Tryz.f11.resultTypes.toList.any (Tryz.prog.ifacesRec ·))) = true := by kernel_rfl
theorem fact21 : ((Rows.encNewRow.loopsOut == Tryz.f11.resultTypes.toList.any (Tryz.prog.loopsFrom ·))) = true := by kernel_rfl
theorem fact22 : ((Rows.encNewRow.plainKeys == Tryz.prog.plainKeys)) = true := by kernel_rfl
theorem fact23 : (Rows.encNewRow.shortTexts.isNone) = true := by kernel_rfl
theorem fact26 : ((Rows.encNewRow.lifted == Tryz.prog.liftsFinal)) = true := by kernel_rfl
theorem fact27 : ((Tryz.prog.make == some Rows.encNewRow.make)) = true := by kernel_rfl
theorem fact29 : ((Rows.encNewRow.pinned == Rows.encNewRow.pinnedBy)) = true := by kernel_rfl
theorem fact30 : ((Rows.encNewRow.veiled == (Tryz.f11.params.toList ++ Rows.encNewSpec.plain.varTypes Tryz.prog ++ Tryz.f11.resultTypes.toList).any (Tryz.prog.veiledRec ·))) = true := by kernel_rfl
theorem fact31 : (Rows.encNewRow.veiledFits Tryz.prog Tryz.f11.params.toList (Tryz.f11.params.toList ++ Rows.encNewSpec.plain.varTypes Tryz.prog ++ Tryz.f11.resultTypes.toList)) = true := by kernel_rfl
theorem closed_one : joinedFacts Tryz.prog 11 Tryz.f11 Rows.encNewSpec Rows.encNewRow = true := joined_of fact0 pfact1 pfact2 fact3 fact4 fact5 pfact6 fact7 pfact8 fact9 fact10 fact11 fact12 fact13 fact14 fact15 fact16 fact17 fact18 fact19 fact20 fact21 fact22 fact23 pfact24 pfact25 fact26 fact27 (by kernel_rfl) fact29 fact30 fact31
theorem closed_two : joinedFacts Tryz.pinned.checked.prog 11 Tryz.f11 (OpenSpec.ofChange Rows.encNewSpec).bare Rows.encNewRow = true := Eq.trans (b := joinedFacts Tryz.prog 11 Tryz.f11 Rows.encNewSpec Rows.encNewRow) (by kernel_rfl) closed_one
end Go.Proofs.YtiggbkhkmecagaaGreatDoor
