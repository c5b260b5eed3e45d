/- What is proved: rows are read from their lines; what is read has just these lines (CsvBack). At every input, without a condition but that the two tables of Go's own texts are what the text of the program lays. -/
import Derived.Test.YthcigkhnedchaaaDoorZCsvBackG
import Derived.Test.YthcigkhnedchaaaDoorZCsvBackS
import Derived.Test.YthcigkhnedchaaaDoorCards
import Derived.Test.YthcigkhnedchaaaDoorTie
import Derived.Test.YthcigkhnedchaaaDoorPF
import Derived.ProofKit
import Derived.OpenShut
import Derived.ShutString
import Derived.ChangeOld
import Derived.SizedLaws
import Derived.Deep.DeepHandedRow
import Derived.Lib.LaidTab
set_option linter.unusedVariables false
set_option linter.unusedSimpArgs false
namespace Go.Proofs.YthcigkhnedchaaaDoor
open Go.ChangeShapes Go.WideShapes Go.ChangeAt Go.RowKit Go.Proofs.Lx

theorem plain_one (f : FuncId) (fn : Func) (hf : Tryd.pinned.checked.prog.funcNamed "exchequer/exchequerlaw49.CsvBack" = some f) (hfn : Tryd.pinned.checked.prog.funcs[f]? = some fn) :
    false = Tryd.pinned.checked.prog.looks [] ∧ ∀ (j : Nat) t, fn.params[j]? = some t → Tryd.pinned.checked.prog.wantsStandIn t = false := by
  obtain rfl : f = 4 := Option.some.inj ((show Tryd.prog.funcNamed "exchequer/exchequerlaw49.CsvBack" = some 4 by kernel_rfl).symm.trans hf) |>.symm
  obtain rfl : fn = Tryd.f4 := (Option.some.inj (Tryd.func4.symm.trans hfn)).symm
  refine ⟨by kernel_rfl, fun j t ht => ?_⟩
  rw [Tryd.params4] at ht
  have all : ([23, 9].all fun t => !Tryd.prog.wantsStandIn t) = true := by kernel_rfl
  have := List.all_eq_true.1 all t (by have := Array.mem_of_getElem? ht; simpa using this)
  have h2 : Tryd.prog.wantsStandIn t = false := by simpa using this
  exact h2

theorem csvBack_card : Rows.CsvBackCardSaid :=
  Claim7.holds_tied_plain_at .later [] _ _ _ _ csvBack_said (fun _ h => by cases h) (by kernel_rfl) (fun _ h => by cases h) csvBack_row_tie rfl ⟨rfl, rfl⟩ (by kernel_rfl) rfl plain_one goes_one
#print axioms csvBack_card
end Go.Proofs.YthcigkhnedchaaaDoor
