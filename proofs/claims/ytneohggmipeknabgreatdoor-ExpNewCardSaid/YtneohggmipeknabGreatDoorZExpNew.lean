/- What is proved: any encumbrances, and expenditures of these, or of nodes, are done as the document says, or refused (ExpNew). At every input, without a condition but that the table of the sums is what the text of the program lays. -/
import Derived.Test.YtneohggmipeknabGreatDoorZExpNewG
import Derived.Test.YtneohggmipeknabGreatDoorZExpNewS
import Derived.Test.YtneohggmipeknabGreatDoorCards
import Derived.Test.YtneohggmipeknabGreatDoorTie
import Derived.Test.YtneohggmipeknabGreatDoorPF
import Derived.ProofKit
import Derived.OpenShut
import Derived.ShutString
import Derived.ChangeOld
import Derived.SizedLaws
import Derived.Deep.DeepHandedRow
import Derived.Lib.LaidTab
set_option linter.unusedVariables false
set_option linter.unusedSimpArgs false
namespace Go.Proofs.YtneohggmipeknabGreatDoor
open Go.ChangeShapes Go.WideShapes Go.ChangeAt Go.RowKit Go.Proofs.Lx

theorem plain_one (f : FuncId) (fn : Func) (hf : Tryz.pinned.checked.prog.funcNamed "exchequer/exchequerlaw33.ExpNew" = some f) (hfn : Tryz.pinned.checked.prog.funcs[f]? = some fn) :
    false = Tryz.pinned.checked.prog.looks [] ∧ ∀ (j : Nat) t, fn.params[j]? = some t → Tryz.pinned.checked.prog.wantsStandIn t = false := by
  obtain rfl : f = 4 := Option.some.inj ((show Tryz.prog.funcNamed "exchequer/exchequerlaw33.ExpNew" = some 4 by kernel_rfl).symm.trans hf) |>.symm
  obtain rfl : fn = Tryz.f4 := (Option.some.inj (Tryz.func4.symm.trans hfn)).symm
  refine ⟨by kernel_rfl, fun j t ht => ?_⟩
  rw [Tryz.params4] at ht
  have all : ([22, 23, 23].all fun t => !Tryz.prog.wantsStandIn t) = true := by kernel_rfl
  have := List.all_eq_true.1 all t (by have := Array.mem_of_getElem? ht; simpa using this)
  have h2 : Tryz.prog.wantsStandIn t = false := by simpa using this
  exact h2

theorem expNew_card : Rows.ExpNewCardSaid :=
  Claim7.holds_tied_plain_at .later [] _ _ _ _ expNew_said (fun _ h => by cases h) (by kernel_rfl) (fun _ h => by cases h) expNew_row_tie rfl ⟨rfl, rfl⟩ (by kernel_rfl) rfl plain_one goes_one
#print axioms expNew_card
end Go.Proofs.YtneohggmipeknabGreatDoor
