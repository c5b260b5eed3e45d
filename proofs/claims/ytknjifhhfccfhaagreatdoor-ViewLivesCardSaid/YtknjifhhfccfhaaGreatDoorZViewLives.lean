/- What is proved: a view of no store does any calls in any order as the document says. At every input, without a condition but that the table of the sums is what the text of the program lays. -/
import Derived.Test.YtknjifhhfccfhaaGreatDoorZViewLivesG
import Derived.Test.YtknjifhhfccfhaaGreatDoorZViewLivesS
import Derived.Test.YtknjifhhfccfhaaGreatDoorCards
import Derived.Test.YtknjifhhfccfhaaGreatDoorTie
import Derived.Test.YtknjifhhfccfhaaGreatDoorPF
import Derived.ProofKit
import Derived.OpenShut
import Derived.ShutString
import Derived.ChangeOld
import Derived.SizedLaws
import Derived.Deep.DeepHandedRow
import Derived.Lib.LaidTab
set_option linter.unusedVariables false
set_option linter.unusedSimpArgs false
namespace Go.Proofs.YtknjifhhfccfhaaGreatDoor
open Go.ChangeShapes Go.WideShapes Go.ChangeAt Go.RowKit Go.Proofs.Lx

theorem plain_one (f : FuncId) (fn : Func) (hf : Tryz.pinned.checked.prog.funcNamed "exchequer/exchequerlaw14.ViewLives" = some f) (hfn : Tryz.pinned.checked.prog.funcs[f]? = some fn) :
    false = Tryz.pinned.checked.prog.looks [] ∧ ∀ (j : Nat) t, fn.params[j]? = some t → Tryz.pinned.checked.prog.wantsStandIn t = false := by
  obtain rfl : f = 4 := Option.some.inj ((show Tryz.prog.funcNamed "exchequer/exchequerlaw14.ViewLives" = some 4 by kernel_rfl).symm.trans hf) |>.symm
  obtain rfl : fn = Tryz.f4 := (Option.some.inj (Tryz.func4.symm.trans hfn)).symm
  refine ⟨by kernel_rfl, fun j t ht => ?_⟩
  rw [Tryz.params4] at ht
  have all : ([43].all fun t => !Tryz.prog.wantsStandIn t) = true := by kernel_rfl
  have := List.all_eq_true.1 all t (by have := Array.mem_of_getElem? ht; simpa using this)
  have h2 : Tryz.prog.wantsStandIn t = false := by simpa using this
  exact h2

theorem viewLives_card : Rows.ViewLivesCardSaid :=
  Claim7.holds_tied_plain_at .later [] _ _ _ _ viewLives_said (fun _ h => by cases h) (by kernel_rfl) (fun _ h => by cases h) viewLives_row_tie rfl ⟨rfl, rfl⟩ (by kernel_rfl) rfl plain_one goes_one
#print axioms viewLives_card
end Go.Proofs.YtknjifhhfccfhaaGreatDoor
