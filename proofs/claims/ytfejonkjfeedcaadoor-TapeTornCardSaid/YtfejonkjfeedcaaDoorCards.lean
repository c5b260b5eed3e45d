/-
  DERIVED. GIVEN WITH THE SEED: THE CARDS: each row of YtfejonkjfeedcaaDoorRows.lean that lists a variable, with what it lists TIED to the program's text (the seventh form; the later family's looks); each row that meets fmt, with fmt's text TOLD by the authors' own Lean function (tested against real Go, not proved from fmt's source: count such statements apart). THE CARD IS WHAT COUNTS. Prove the row's statement (the work); the ties are given (YtfejonkjfeedcaaDoorTie.lean); close each card by the builder's one call (the guide's Derived/Test/ToyasCard.lean, 'card_holds'). Laid BY PROGRAM, IN A SANDBOX (cutbox-door.mjs). By AI agents, Wed Nov 11 2026. No macro, syntax, notation, axiom, sorry.
-/
import Derived.Test.YtfejonkjfeedcaaDoorRows
import GoSem.ClaimSeven
namespace Go.Proofs.YtfejonkjfeedcaaDoor
namespace Rows

/-- THE TIED CARD OF 'exchequerlaw51.TapeTells'. -/
def tapeTellsCard : Claim7 := { stood := { row := tapeTellsRow, standIns := [], harness := (true, "b200ea0eb9391ecb97e5799be6c6639a283f126f8dee4fa85fe18a2ac240b439"), looks := false }, kinds := [], alts := [], laidByText := true, laidKinds := [.data], laidTests := true, laidLooks := .later }
def TapeTellsCardSaid : Prop := Claim7.holds Tryd.pinned (.plain (OpenSpec.ofChange tapeTellsSpec)) tapeTellsCard

/-- THE TIED CARD OF 'exchequerlaw51.TapeBack'. -/
def tapeBackCard : Claim7 := { stood := { row := tapeBackRow, standIns := [], harness := (true, "b200ea0eb9391ecb97e5799be6c6639a283f126f8dee4fa85fe18a2ac240b439"), looks := false }, kinds := [], alts := [], laidByText := true, laidKinds := [.data], laidTests := true, laidLooks := .later }
def TapeBackCardSaid : Prop := Claim7.holds Tryd.pinned (.plain (OpenSpec.ofChange tapeBackSpec)) tapeBackCard

/-- THE TIED CARD OF 'exchequerlaw51.TapeTorn'. -/
def tapeTornCard : Claim7 := { stood := { row := tapeTornRow, standIns := [], harness := (true, "b200ea0eb9391ecb97e5799be6c6639a283f126f8dee4fa85fe18a2ac240b439"), looks := false }, kinds := [], alts := [], laidByText := true, laidKinds := [.data], laidTests := true, laidLooks := .later }
def TapeTornCardSaid : Prop := Claim7.holds Tryd.pinned (.plain (OpenSpec.ofChange tapeTornSpec)) tapeTornCard

/-- THE TIED CARD OF 'exchequerlaw49.CsvParses'. -/
def csvParsesCard : Claim7 := { stood := { row := csvParsesRow, standIns := [], harness := (true, "b200ea0eb9391ecb97e5799be6c6639a283f126f8dee4fa85fe18a2ac240b439"), looks := false }, kinds := [], alts := [], laidByText := true, laidKinds := [.data, .pinned], laidTests := true, laidLooks := .later }
def CsvParsesCardSaid : Prop := Claim7.holds Tryd.pinned (.plain (OpenSpec.ofChange csvParsesSpec)) csvParsesCard

/-- THE SECOND FORM's CARD OF 'exchequerlaw51.TapeTells'. -/
def tapeTellsUptoCard : Claim7 := { stood := { row := tapeTellsUptoRow, standIns := [], harness := (true, "b200ea0eb9391ecb97e5799be6c6639a283f126f8dee4fa85fe18a2ac240b439"), looks := false }, kinds := [], alts := [], laidByText := true, laidKinds := [.data], laidTests := true, laidLooks := .later }
def TapeTellsUptoCardSaid : Prop := Claim7.holds Tryd.pinned (.plain (OpenSpec.upto tapeTellsSpec)) tapeTellsUptoCard

/-- THE SECOND FORM's CARD OF 'exchequerlaw51.TapeBack'. -/
def tapeBackUptoCard : Claim7 := { stood := { row := tapeBackUptoRow, standIns := [], harness := (true, "b200ea0eb9391ecb97e5799be6c6639a283f126f8dee4fa85fe18a2ac240b439"), looks := false }, kinds := [], alts := [], laidByText := true, laidKinds := [.data], laidTests := true, laidLooks := .later }
def TapeBackUptoCardSaid : Prop := Claim7.holds Tryd.pinned (.plain (OpenSpec.upto tapeBackSpec)) tapeBackUptoCard

/-- THE SECOND FORM's CARD OF 'exchequerlaw51.TapeTorn'. -/
def tapeTornUptoCard : Claim7 := { stood := { row := tapeTornUptoRow, standIns := [], harness := (true, "b200ea0eb9391ecb97e5799be6c6639a283f126f8dee4fa85fe18a2ac240b439"), looks := false }, kinds := [], alts := [], laidByText := true, laidKinds := [.data], laidTests := true, laidLooks := .later }
def TapeTornUptoCardSaid : Prop := Claim7.holds Tryd.pinned (.plain (OpenSpec.upto tapeTornSpec)) tapeTornUptoCard

/-- THE SECOND FORM's CARD OF 'exchequerlaw49.CsvParses'. -/
def csvParsesUptoCard : Claim7 := { stood := { row := csvParsesUptoRow, standIns := [], harness := (true, "b200ea0eb9391ecb97e5799be6c6639a283f126f8dee4fa85fe18a2ac240b439"), looks := false }, kinds := [], alts := [], laidByText := true, laidKinds := [.data, .pinned], laidTests := true, laidLooks := .later }
def CsvParsesUptoCardSaid : Prop := Claim7.holds Tryd.pinned (.plain (OpenSpec.upto csvParsesSpec)) csvParsesUptoCard
end Rows
end Go.Proofs.YtfejonkjfeedcaaDoor
