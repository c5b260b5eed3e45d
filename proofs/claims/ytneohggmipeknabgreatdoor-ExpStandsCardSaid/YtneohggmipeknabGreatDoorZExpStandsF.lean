/- The closed facts of the row ExpStands. -/
import Derived.Test.YtneohggmipeknabGreatDoorCards
import Derived.Test.YtneohggmipeknabGreatDoorPF
import Derived.ProofKit
import Derived.OpenShut
import Derived.ShutString
import Derived.ChangeOld
import Derived.SizedLaws
import Derived.Deep.DeepHandedRow
import Derived.Lib.LaidTab
set_option linter.unusedVariables false
set_option linter.unusedSimpArgs false
namespace Go.Proofs.YtneohggmipeknabGreatDoor
open Go.ChangeShapes Go.WideShapes Go.ChangeAt Go.RowKit

theorem fact0 : (Rows.expStandsRow.wf (OpenSpec.ofChange Rows.expStandsSpec)) = true := by kernel_rfl
theorem fact3 : (Tryz.f3.params.all (Tryz.prog.readableRec ·)) = true := by kernel_rfl
theorem fact4 : (namedTie Tryz.prog Rows.expStandsRow.named Rows.expStandsSpec.vars) = true := by kernel_rfl
theorem fact5 : ((Rows.expStandsRow.stops == [])) = true := by kernel_rfl
theorem fact7 : ((Rows.expStandsRow.knobs == [])) = true := by kernel_rfl
theorem fact9 : ((Rows.expStandsRow.inPlace == Tryz.prog.inPlace 3)) = true := by kernel_rfl
theorem fact10 : ((Rows.expStandsRow.unfollowed == Tryz.prog.unfollowed 3)) = true := by kernel_rfl
theorem fact11 : ((Rows.expStandsRow.recurses == Tryz.prog.recurses 3)) = true := by kernel_rfl
theorem fact12 : ((Rows.expStandsRow.named == Tryz.prog.varsNamed 3)) = true := by kernel_rfl
theorem fact13 : ((Rows.expStandsRow.maps == (Tryz.f3.params.toList ++ Rows.expStandsSpec.plain.varTypes Tryz.prog).any (Tryz.prog.mapsRec ·))) = true := by kernel_rfl
theorem fact14 : ((Rows.expStandsRow.ifaces == (Tryz.f3.params.toList ++ Rows.expStandsSpec.plain.varTypes Tryz.prog).any (Tryz.prog.ifacesRec ·))) = true := by kernel_rfl
theorem fact15 : ((Rows.expStandsRow.mapsOut == Tryz.prog.mapsAmong Tryz.f3.resultTypes.toList)) = true := by kernel_rfl
theorem fact16 : ((Rows.expStandsRow.loops == (Tryz.f3.params.toList ++ Rows.expStandsSpec.plain.varTypes Tryz.prog).any (Tryz.prog.loopsFrom ·))) = true := by kernel_rfl
theorem fact17 : ((Rows.expStandsRow.wideKeys == (Tryz.f3.params.toList ++ Rows.expStandsSpec.plain.varTypes Tryz.prog ++ Tryz.f3.resultTypes.toList).any (Tryz.prog.wideKeysFrom ·))) = true := by kernel_rfl
theorem fact18 : (Rows.expStandsSpec.vars.all (Tryz.prog.varReadable ·)) = true := by kernel_rfl
theorem fact19 : (Tryz.f3.resultTypes.all (fun t => Tryz.prog.readableRec t && decide (t < Tryz.prog.types.size))) = true := by kernel_rfl
theorem fact20 : ((Rows.expStandsRow.ifacesOut == Tryz.f3.resultTypes.toList.any (Tryz.prog.ifacesRec ·))) = true := by kernel_rfl
theorem fact21 : ((Rows.expStandsRow.loopsOut == Tryz.f3.resultTypes.toList.any (Tryz.prog.loopsFrom ·))) = true := by kernel_rfl
theorem fact22 : ((Rows.expStandsRow.plainKeys == Tryz.prog.plainKeys)) = true := by kernel_rfl
theorem fact23 : (Rows.expStandsRow.shortTexts.isNone) = true := by kernel_rfl
theorem fact26 : ((Rows.expStandsRow.lifted == Tryz.prog.liftsFinal)) = true := by kernel_rfl
theorem fact27 : ((Tryz.prog.make == some Rows.expStandsRow.make)) = true := by kernel_rfl
theorem fact29 : ((Rows.expStandsRow.pinned == Rows.expStandsRow.pinnedBy)) = true := by kernel_rfl
theorem fact30 : ((Rows.expStandsRow.veiled == (Tryz.f3.params.toList ++ Rows.expStandsSpec.plain.varTypes Tryz.prog ++ Tryz.f3.resultTypes.toList).any (Tryz.prog.veiledRec ·))) = true := by kernel_rfl
theorem fact31 : (Rows.expStandsRow.veiledFits Tryz.prog Tryz.f3.params.toList (Tryz.f3.params.toList ++ Rows.expStandsSpec.plain.varTypes Tryz.prog ++ Tryz.f3.resultTypes.toList)) = true := by kernel_rfl
theorem closed_one : joinedFacts Tryz.prog 3 Tryz.f3 Rows.expStandsSpec Rows.expStandsRow = true := joined_of fact0 pfact1 pfact2 fact3 fact4 fact5 pfact6 fact7 pfact8 fact9 fact10 fact11 fact12 fact13 fact14 fact15 fact16 fact17 fact18 fact19 fact20 fact21 fact22 fact23 pfact24 pfact25 fact26 fact27 (by kernel_rfl) fact29 fact30 fact31
theorem closed_two : joinedFacts Tryz.pinned.checked.prog 3 Tryz.f3 (OpenSpec.ofChange Rows.expStandsSpec).bare Rows.expStandsRow = true := Eq.trans (b := joinedFacts Tryz.prog 3 Tryz.f3 Rows.expStandsSpec Rows.expStandsRow) (by kernel_rfl) closed_one
end Go.Proofs.YtneohggmipeknabGreatDoor
