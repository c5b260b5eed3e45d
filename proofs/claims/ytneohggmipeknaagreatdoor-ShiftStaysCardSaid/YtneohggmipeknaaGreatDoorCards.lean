/-
  DERIVED. GIVEN WITH THE SEED: THE CARDS: each row of YtneohggmipeknaaGreatDoorRows.lean that lists a variable, with what it lists TIED to the program's text (the seventh form; the later family's looks); each row that meets fmt, with fmt's text TOLD by the authors' own Lean function (tested against real Go, not proved from fmt's source: count such statements apart). THE CARD IS WHAT COUNTS. Prove the row's statement (the work); the ties are given (YtneohggmipeknaaGreatDoorTie.lean); close each card by the builder's one call (the guide's Derived/Test/ToyasCard.lean, 'card_holds'). Laid BY PROGRAM, IN A SANDBOX (cutbox-door.mjs). By AI agents, Wed Nov 11 2026. No macro, syntax, notation, axiom, sorry.
-/
import Derived.Test.YtneohggmipeknaaGreatDoorRows
import GoSem.ClaimSeven
namespace Go.Proofs.YtneohggmipeknaaGreatDoor
namespace Rows

/-- THE TIED CARD OF 'exchequerlaw34.ShiftStays'. -/
def shiftStaysCard : Claim7 := { stood := { row := shiftStaysRow, standIns := [], harness := (true, "c231fe2f358578acc24c8d671e73e022600b98350dc1888fb3edcf846b609413"), looks := false }, kinds := [], alts := [], laidByText := true, laidKinds := [.data], laidTests := true, laidLooks := .later }
def ShiftStaysCardSaid : Prop := Claim7.holds Tryz.pinned (.plain (OpenSpec.ofChange shiftStaysSpec)) shiftStaysCard

/-- THE TIED CARD OF 'exchequerlaw34.ShiftLives'. -/
def shiftLivesCard : Claim7 := { stood := { row := shiftLivesRow, standIns := [], harness := (true, "c231fe2f358578acc24c8d671e73e022600b98350dc1888fb3edcf846b609413"), looks := false }, kinds := [], alts := [], laidByText := true, laidKinds := [.data], laidTests := true, laidLooks := .later }
def ShiftLivesCardSaid : Prop := Claim7.holds Tryz.pinned (.plain (OpenSpec.ofChange shiftLivesSpec)) shiftLivesCard

/-- THE SECOND FORM's CARD OF 'exchequerlaw34.ShiftStays'. -/
def shiftStaysUptoCard : Claim7 := { stood := { row := shiftStaysUptoRow, standIns := [], harness := (true, "c231fe2f358578acc24c8d671e73e022600b98350dc1888fb3edcf846b609413"), looks := false }, kinds := [], alts := [], laidByText := true, laidKinds := [.data], laidTests := true, laidLooks := .later }
def ShiftStaysUptoCardSaid : Prop := Claim7.holds Tryz.pinned (.plain (OpenSpec.upto shiftStaysSpec)) shiftStaysUptoCard

/-- THE SECOND FORM's CARD OF 'exchequerlaw34.ShiftLives'. -/
def shiftLivesUptoCard : Claim7 := { stood := { row := shiftLivesUptoRow, standIns := [], harness := (true, "c231fe2f358578acc24c8d671e73e022600b98350dc1888fb3edcf846b609413"), looks := false }, kinds := [], alts := [], laidByText := true, laidKinds := [.data], laidTests := true, laidLooks := .later }
def ShiftLivesUptoCardSaid : Prop := Claim7.holds Tryz.pinned (.plain (OpenSpec.upto shiftLivesSpec)) shiftLivesUptoCard
end Rows
end Go.Proofs.YtneohggmipeknaaGreatDoor
