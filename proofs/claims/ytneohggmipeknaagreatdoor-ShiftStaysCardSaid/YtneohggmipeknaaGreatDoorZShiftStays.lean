/- What is proved: of budgets that were made from nothing those below one have never more than it, whatever is changed, moved, and cancelled; documents' lines stay whole (ShiftStays). At every input, without a condition but that the table of the sums is what the text of the program lays. -/
import Derived.Test.YtneohggmipeknaaGreatDoorZShiftStaysG
import Derived.Test.YtneohggmipeknaaGreatDoorZShiftStaysS
import Derived.Test.YtneohggmipeknaaGreatDoorCards
import Derived.Test.YtneohggmipeknaaGreatDoorTie
import Derived.Test.YtneohggmipeknaaGreatDoorPF
import Derived.ProofKit
import Derived.OpenShut
import Derived.ShutString
import Derived.ChangeOld
import Derived.SizedLaws
import Derived.Deep.DeepHandedRow
import Derived.Lib.LaidTab
set_option linter.unusedVariables false
set_option linter.unusedSimpArgs false
namespace Go.Proofs.YtneohggmipeknaaGreatDoor
open Go.ChangeShapes Go.WideShapes Go.ChangeAt Go.RowKit Go.Proofs.Lx

theorem plain_one (f : FuncId) (fn : Func) (hf : Tryz.pinned.checked.prog.funcNamed "exchequer/exchequerlaw34.ShiftStays" = some f) (hfn : Tryz.pinned.checked.prog.funcs[f]? = some fn) :
    false = Tryz.pinned.checked.prog.looks [] ∧ ∀ (j : Nat) t, fn.params[j]? = some t → Tryz.pinned.checked.prog.wantsStandIn t = false := by
  obtain rfl : f = 3 := Option.some.inj ((show Tryz.prog.funcNamed "exchequer/exchequerlaw34.ShiftStays" = some 3 by kernel_rfl).symm.trans hf) |>.symm
  obtain rfl : fn = Tryz.f3 := (Option.some.inj (Tryz.func3.symm.trans hfn)).symm
  refine ⟨by kernel_rfl, fun j t ht => ?_⟩
  rw [Tryz.params3] at ht
  have all : ([22].all fun t => !Tryz.prog.wantsStandIn t) = true := by kernel_rfl
  have := List.all_eq_true.1 all t (by have := Array.mem_of_getElem? ht; simpa using this)
  have h2 : Tryz.prog.wantsStandIn t = false := by simpa using this
  exact h2

theorem shiftStays_card : Rows.ShiftStaysCardSaid :=
  Claim7.holds_tied_plain_at .later [] _ _ _ _ shiftStays_said (fun _ h => by cases h) (by kernel_rfl) (fun _ h => by cases h) shiftStays_row_tie rfl ⟨rfl, rfl⟩ (by kernel_rfl) rfl plain_one goes_one
#print axioms shiftStays_card
end Go.Proofs.YtneohggmipeknaaGreatDoor
