/- The closed facts of the row DocsBack. -/
import Derived.Test.YtiggbkhkmecagaaGreatDoorCards
import Derived.Test.YtiggbkhkmecagaaGreatDoorPF
import Derived.ProofKit
import Derived.OpenShut
import Derived.ShutString
import Derived.ChangeOld
import Derived.SizedLaws
import Derived.Deep.DeepHandedRow
import Derived.Lib.LaidTab
set_option linter.unusedVariables false
set_option linter.unusedSimpArgs false
namespace Go.Proofs.YtiggbkhkmecagaaGreatDoor
open Go.ChangeShapes Go.WideShapes Go.ChangeAt Go.RowKit

theorem fact0 : (Rows.docsBackRow.wf (OpenSpec.ofChange Rows.docsBackSpec)) = true := by kernel_rfl
theorem fact3 : (Tryz.f6.params.all (Tryz.prog.readableRec ·)) = true := by kernel_rfl
theorem fact4 : (namedTie Tryz.prog Rows.docsBackRow.named Rows.docsBackSpec.vars) = true := by kernel_rfl
theorem fact5 : ((Rows.docsBackRow.stops == [])) = true := by kernel_rfl
theorem fact7 : ((Rows.docsBackRow.knobs == [])) = true := by kernel_rfl
theorem fact9 : ((Rows.docsBackRow.inPlace == Tryz.prog.inPlace 6)) = true := by kernel_rfl
theorem fact10 : ((Rows.docsBackRow.unfollowed == Tryz.prog.unfollowed 6)) = true := by kernel_rfl
theorem fact11 : ((Rows.docsBackRow.recurses == Tryz.prog.recurses 6)) = true := by kernel_rfl
theorem fact12 : ((Rows.docsBackRow.named == Tryz.prog.varsNamed 6)) = true := by kernel_rfl
theorem fact13 : ((Rows.docsBackRow.maps == (Tryz.f6.params.toList ++ Rows.docsBackSpec.plain.varTypes Tryz.prog).any (Tryz.prog.mapsRec ·))) = true := by kernel_rfl
theorem fact14 : ((Rows.docsBackRow.ifaces == (Tryz.f6.params.toList ++ Rows.docsBackSpec.plain.varTypes Tryz.prog).any (Tryz.prog.ifacesRec ·))) = true := by kernel_rfl
theorem fact15 : ((Rows.docsBackRow.mapsOut == Tryz.prog.mapsAmong Tryz.f6.resultTypes.toList)) = true := by kernel_rfl
theorem fact16 : ((Rows.docsBackRow.loops == (Tryz.f6.params.toList ++ Rows.docsBackSpec.plain.varTypes Tryz.prog).any (Tryz.prog.loopsFrom ·))) = true := by kernel_rfl
theorem fact17 : ((Rows.docsBackRow.wideKeys == (Tryz.f6.params.toList ++ Rows.docsBackSpec.plain.varTypes Tryz.prog ++ Tryz.f6.resultTypes.toList).any (Tryz.prog.wideKeysFrom ·))) = true := by kernel_rfl
theorem fact18 : (Rows.docsBackSpec.vars.all (Tryz.prog.varReadable ·)) = true := by kernel_rfl
theorem fact19 : (Tryz.f6.resultTypes.all (fun t => Tryz.prog.readableRec t && decide (t < Tryz.prog.types.size))) = true := by kernel_rfl
theorem fact20 : ((Rows.docsBackRow.ifacesOut == Tryz.f6.resultTypes.toList.any (Tryz.prog.ifacesRec ·))) = true := by kernel_rfl
theorem fact21 : ((Rows.docsBackRow.loopsOut == Tryz.f6.resultTypes.toList.any (Tryz.prog.loopsFrom ·))) = true := by kernel_rfl
theorem fact22 : ((Rows.docsBackRow.plainKeys == Tryz.prog.plainKeys)) = true := by kernel_rfl
theorem fact23 : (Rows.docsBackRow.shortTexts.isNone) = true := by kernel_rfl
theorem fact26 : ((Rows.docsBackRow.lifted == Tryz.prog.liftsFinal)) = true := by kernel_rfl
theorem fact27 : ((Tryz.prog.make == some Rows.docsBackRow.make)) = true := by kernel_rfl
theorem fact29 : ((Rows.docsBackRow.pinned == Rows.docsBackRow.pinnedBy)) = true := by kernel_rfl
theorem fact30 : ((Rows.docsBackRow.veiled == (Tryz.f6.params.toList ++ Rows.docsBackSpec.plain.varTypes Tryz.prog ++ Tryz.f6.resultTypes.toList).any (Tryz.prog.veiledRec ·))) = true := by kernel_rfl
theorem fact31 : (Rows.docsBackRow.veiledFits Tryz.prog Tryz.f6.params.toList (Tryz.f6.params.toList ++ Rows.docsBackSpec.plain.varTypes Tryz.prog ++ Tryz.f6.resultTypes.toList)) = true := by kernel_rfl
theorem closed_one : joinedFacts Tryz.prog 6 Tryz.f6 Rows.docsBackSpec Rows.docsBackRow = true := joined_of fact0 pfact1 pfact2 fact3 fact4 fact5 pfact6 fact7 pfact8 fact9 fact10 fact11 fact12 fact13 fact14 fact15 fact16 fact17 fact18 fact19 fact20 fact21 fact22 fact23 pfact24 pfact25 fact26 fact27 (by kernel_rfl) fact29 fact30 fact31
theorem closed_two : joinedFacts Tryz.pinned.checked.prog 6 Tryz.f6 (OpenSpec.ofChange Rows.docsBackSpec).bare Rows.docsBackRow = true := Eq.trans (b := joinedFacts Tryz.prog 6 Tryz.f6 Rows.docsBackSpec Rows.docsBackRow) (by kernel_rfl) closed_one
end Go.Proofs.YtiggbkhkmecagaaGreatDoor
