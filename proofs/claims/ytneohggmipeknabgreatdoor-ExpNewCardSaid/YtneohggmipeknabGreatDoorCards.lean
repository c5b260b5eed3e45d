/-
  DERIVED. GIVEN WITH THE SEED: THE CARDS: each row of YtneohggmipeknabGreatDoorRows.lean that lists a variable, with what it lists TIED to the program's text (the seventh form; the later family's looks); each row that meets fmt, with fmt's text TOLD by the authors' own Lean function (tested against real Go, not proved from fmt's source: count such statements apart). THE CARD IS WHAT COUNTS. Prove the row's statement (the work); the ties are given (YtneohggmipeknabGreatDoorTie.lean); close each card by the builder's one call (the guide's Derived/Test/ToyasCard.lean, 'card_holds'). Laid BY PROGRAM, IN A SANDBOX (cutbox-door.mjs). By AI agents, Wed Nov 11 2026. No macro, syntax, notation, axiom, sorry.
-/
import Derived.Test.YtneohggmipeknabGreatDoorRows
import GoSem.ClaimSeven
namespace Go.Proofs.YtneohggmipeknabGreatDoor
namespace Rows

/-- THE TIED CARD OF 'exchequerlaw33.ExpStands'. -/
def expStandsCard : Claim7 := { stood := { row := expStandsRow, standIns := [], harness := (true, "eb2837408cfeff0103ca98113a0d8d00c3c860ccf94e3df7c16fe096ac16cc1e"), looks := false }, kinds := [], alts := [], laidByText := true, laidKinds := [.data], laidTests := true, laidLooks := .later }
def ExpStandsCardSaid : Prop := Claim7.holds Tryz.pinned (.plain (OpenSpec.ofChange expStandsSpec)) expStandsCard

/-- THE TIED CARD OF 'exchequerlaw33.ExpNew'. -/
def expNewCard : Claim7 := { stood := { row := expNewRow, standIns := [], harness := (true, "eb2837408cfeff0103ca98113a0d8d00c3c860ccf94e3df7c16fe096ac16cc1e"), looks := false }, kinds := [], alts := [], laidByText := true, laidKinds := [.data], laidTests := true, laidLooks := .later }
def ExpNewCardSaid : Prop := Claim7.holds Tryz.pinned (.plain (OpenSpec.ofChange expNewSpec)) expNewCard

/-- THE SECOND FORM's CARD OF 'exchequerlaw33.ExpStands'. -/
def expStandsUptoCard : Claim7 := { stood := { row := expStandsUptoRow, standIns := [], harness := (true, "eb2837408cfeff0103ca98113a0d8d00c3c860ccf94e3df7c16fe096ac16cc1e"), looks := false }, kinds := [], alts := [], laidByText := true, laidKinds := [.data], laidTests := true, laidLooks := .later }
def ExpStandsUptoCardSaid : Prop := Claim7.holds Tryz.pinned (.plain (OpenSpec.upto expStandsSpec)) expStandsUptoCard

/-- THE SECOND FORM's CARD OF 'exchequerlaw33.ExpNew'. -/
def expNewUptoCard : Claim7 := { stood := { row := expNewUptoRow, standIns := [], harness := (true, "eb2837408cfeff0103ca98113a0d8d00c3c860ccf94e3df7c16fe096ac16cc1e"), looks := false }, kinds := [], alts := [], laidByText := true, laidKinds := [.data], laidTests := true, laidLooks := .later }
def ExpNewUptoCardSaid : Prop := Claim7.holds Tryz.pinned (.plain (OpenSpec.upto expNewSpec)) expNewUptoCard
end Rows
end Go.Proofs.YtneohggmipeknabGreatDoor
