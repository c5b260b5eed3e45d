/- What is proved: budgets are made, changed and moved, and what is open is cancelled, in any order, as the document says, or refused (ShiftLives). At every input, without a condition but that the table of the sums is what the text of the program lays. -/
import Derived.Test.YtneohggmipeknaaGreatDoorZShiftLivesG
import Derived.Test.YtneohggmipeknaaGreatDoorZShiftLivesS
import Derived.Test.YtneohggmipeknaaGreatDoorCards
import Derived.Test.YtneohggmipeknaaGreatDoorTie
import Derived.Test.YtneohggmipeknaaGreatDoorPF
import Derived.ProofKit
import Derived.OpenShut
import Derived.ShutString
import Derived.ChangeOld
import Derived.SizedLaws
import Derived.Deep.DeepHandedRow
import Derived.Lib.LaidTab
set_option linter.unusedVariables false
set_option linter.unusedSimpArgs false
namespace Go.Proofs.YtneohggmipeknaaGreatDoor
open Go.ChangeShapes Go.WideShapes Go.ChangeAt Go.RowKit Go.Proofs.Lx

theorem plain_one (f : FuncId) (fn : Func) (hf : Tryz.pinned.checked.prog.funcNamed "exchequer/exchequerlaw34.ShiftLives" = some f) (hfn : Tryz.pinned.checked.prog.funcs[f]? = some fn) :
    false = Tryz.pinned.checked.prog.looks [] ∧ ∀ (j : Nat) t, fn.params[j]? = some t → Tryz.pinned.checked.prog.wantsStandIn t = false := by
  obtain rfl : f = 4 := Option.some.inj ((show Tryz.prog.funcNamed "exchequer/exchequerlaw34.ShiftLives" = some 4 by kernel_rfl).symm.trans hf) |>.symm
  obtain rfl : fn = Tryz.f4 := (Option.some.inj (Tryz.func4.symm.trans hfn)).symm
  refine ⟨by kernel_rfl, fun j t ht => ?_⟩
  rw [Tryz.params4] at ht
  have all : ([36, 22].all fun t => !Tryz.prog.wantsStandIn t) = true := by kernel_rfl
  have := List.all_eq_true.1 all t (by have := Array.mem_of_getElem? ht; simpa using this)
  have h2 : Tryz.prog.wantsStandIn t = false := by simpa using this
  exact h2

theorem shiftLives_card : Rows.ShiftLivesCardSaid :=
  Claim7.holds_tied_plain_at .later [] _ _ _ _ shiftLives_said (fun _ h => by cases h) (by kernel_rfl) (fun _ h => by cases h) shiftLives_row_tie rfl ⟨rfl, rfl⟩ (by kernel_rfl) rfl plain_one goes_one
#print axioms shiftLives_card
end Go.Proofs.YtneohggmipeknaaGreatDoor
