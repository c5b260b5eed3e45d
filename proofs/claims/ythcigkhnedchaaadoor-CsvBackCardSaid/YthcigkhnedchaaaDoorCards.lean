/-
  DERIVED. GIVEN WITH THE SEED: THE CARDS: each row of YthcigkhnedchaaaDoorRows.lean that lists a variable, with what it lists TIED to the program's text (the seventh form; the later family's looks); each row that meets fmt, with fmt's text TOLD by the authors' own Lean function (tested against real Go, not proved from fmt's source: count such statements apart). THE CARD IS WHAT COUNTS. Prove the row's statement (the work); the ties are given (YthcigkhnedchaaaDoorTie.lean); close each card by the builder's one call (the guide's Derived/Test/ToyasCard.lean, 'card_holds'). Laid BY PROGRAM, IN A SANDBOX (cutbox-door.mjs). By AI agents, Wed Nov 11 2026. No macro, syntax, notation, axiom, sorry.
-/
import Derived.Test.YthcigkhnedchaaaDoorRows
import GoSem.ClaimSeven
namespace Go.Proofs.YthcigkhnedchaaaDoor
namespace Rows

/-- THE TIED CARD OF 'exchequerlaw49.CsvParses'. -/
def csvParsesCard : Claim7 := { stood := { row := csvParsesRow, standIns := [], harness := (true, "aab401e337aec871c2c67b796b03d16aa97578d38523ccad33f1853c89b9f98f"), looks := false }, kinds := [], alts := [], laidByText := true, laidKinds := [.data, .pinned], laidTests := true, laidLooks := .later }
def CsvParsesCardSaid : Prop := Claim7.holds Tryd.pinned (.plain (OpenSpec.ofChange csvParsesSpec)) csvParsesCard

/-- THE TIED CARD OF 'exchequerlaw49.CsvBack'. -/
def csvBackCard : Claim7 := { stood := { row := csvBackRow, standIns := [], harness := (true, "aab401e337aec871c2c67b796b03d16aa97578d38523ccad33f1853c89b9f98f"), looks := false }, kinds := [], alts := [], laidByText := true, laidKinds := [.data, .pinned], laidTests := true, laidLooks := .later }
def CsvBackCardSaid : Prop := Claim7.holds Tryd.pinned (.plain (OpenSpec.ofChange csvBackSpec)) csvBackCard

/-- THE SECOND FORM's CARD OF 'exchequerlaw49.CsvParses'. -/
def csvParsesUptoCard : Claim7 := { stood := { row := csvParsesUptoRow, standIns := [], harness := (true, "aab401e337aec871c2c67b796b03d16aa97578d38523ccad33f1853c89b9f98f"), looks := false }, kinds := [], alts := [], laidByText := true, laidKinds := [.data, .pinned], laidTests := true, laidLooks := .later }
def CsvParsesUptoCardSaid : Prop := Claim7.holds Tryd.pinned (.plain (OpenSpec.upto csvParsesSpec)) csvParsesUptoCard

/-- THE SECOND FORM's CARD OF 'exchequerlaw49.CsvBack'. -/
def csvBackUptoCard : Claim7 := { stood := { row := csvBackUptoRow, standIns := [], harness := (true, "aab401e337aec871c2c67b796b03d16aa97578d38523ccad33f1853c89b9f98f"), looks := false }, kinds := [], alts := [], laidByText := true, laidKinds := [.data, .pinned], laidTests := true, laidLooks := .later }
def CsvBackUptoCardSaid : Prop := Claim7.holds Tryd.pinned (.plain (OpenSpec.upto csvBackSpec)) csvBackUptoCard
end Rows
end Go.Proofs.YthcigkhnedchaaaDoor
