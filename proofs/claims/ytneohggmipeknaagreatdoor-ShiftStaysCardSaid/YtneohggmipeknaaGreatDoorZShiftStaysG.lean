/- The closed fact that goes by of the row ShiftStays. -/
import Derived.Test.YtneohggmipeknaaGreatDoorCards
import Derived.ProofKit
import Derived.OpenShut
import Derived.ShutString
import Derived.ChangeOld
import Derived.SizedLaws
import Derived.Deep.DeepHandedRow
import Derived.Lib.LaidTab
set_option linter.unusedVariables false
set_option linter.unusedSimpArgs false
namespace Go.Proofs.YtneohggmipeknaaGreatDoor
open Go.ChangeShapes Go.WideShapes Go.ChangeAt Go.RowKit

theorem goes_one : false = Rows.shiftStaysRow.goesBy Tryz.pinned.checked.prog := by kernel_rfl
end Go.Proofs.YtneohggmipeknaaGreatDoor
