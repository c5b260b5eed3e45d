/-
  DERIVED. GIVEN WITH THE SEED: THE CARDS: each row of YtknjifhhfccfhaaGreatDoorRows.lean that lists a variable, with what it lists TIED to the program's text (the seventh form; the later family's looks); each row that meets fmt, with fmt's text TOLD by the authors' own Lean function (tested against real Go, not proved from fmt's source: count such statements apart). THE CARD IS WHAT COUNTS. Prove the row's statement (the work); the ties are given (YtknjifhhfccfhaaGreatDoorTie.lean); close each card by the builder's one call (the guide's Derived/Test/ToyasCard.lean, 'card_holds'). Laid BY PROGRAM, IN A SANDBOX (cutbox-door.mjs). By AI agents, Wed Nov 11 2026. No macro, syntax, notation, axiom, sorry.
-/
import Derived.Test.YtknjifhhfccfhaaGreatDoorRows
import GoSem.ClaimSeven
namespace Go.Proofs.YtknjifhhfccfhaaGreatDoor
namespace Rows

/-- THE TIED CARD OF 'exchequerlaw14.ViewNobody'. -/
def viewNobodyCard : Claim7 := { stood := { row := viewNobodyRow, standIns := [], harness := (true, "4b421b92a9ba4a1b4aa2d91e0cfb36618aa1928fa4c2960c103dd3c5cfe03cd0"), looks := false }, kinds := [], alts := [], laidByText := true, laidKinds := [.data], laidTests := true, laidLooks := .later }
def ViewNobodyCardSaid : Prop := Claim7.holds Tryz.pinned (.plain (OpenSpec.ofChange viewNobodySpec)) viewNobodyCard

/-- THE TIED CARD OF 'exchequerlaw14.ViewLives'. -/
def viewLivesCard : Claim7 := { stood := { row := viewLivesRow, standIns := [], harness := (true, "4b421b92a9ba4a1b4aa2d91e0cfb36618aa1928fa4c2960c103dd3c5cfe03cd0"), looks := false }, kinds := [], alts := [], laidByText := true, laidKinds := [.data], laidTests := true, laidLooks := .later }
def ViewLivesCardSaid : Prop := Claim7.holds Tryz.pinned (.plain (OpenSpec.ofChange viewLivesSpec)) viewLivesCard

/-- THE TIED CARD OF 'exchequerlaw27.TrialRight'. -/
def trialRightCard : Claim7 := { stood := { row := trialRightRow, standIns := [], harness := (true, "4b421b92a9ba4a1b4aa2d91e0cfb36618aa1928fa4c2960c103dd3c5cfe03cd0"), looks := false }, kinds := [], alts := [], laidByText := true, laidKinds := [.data], laidTests := true, laidLooks := .later }
def TrialRightCardSaid : Prop := Claim7.holds Tryz.pinned (.plain (OpenSpec.ofChange trialRightSpec)) trialRightCard

/-- THE SECOND FORM's CARD OF 'exchequerlaw14.ViewNobody'. -/
def viewNobodyUptoCard : Claim7 := { stood := { row := viewNobodyUptoRow, standIns := [], harness := (true, "4b421b92a9ba4a1b4aa2d91e0cfb36618aa1928fa4c2960c103dd3c5cfe03cd0"), looks := false }, kinds := [], alts := [], laidByText := true, laidKinds := [.data], laidTests := true, laidLooks := .later }
def ViewNobodyUptoCardSaid : Prop := Claim7.holds Tryz.pinned (.plain (OpenSpec.upto viewNobodySpec)) viewNobodyUptoCard

/-- THE SECOND FORM's CARD OF 'exchequerlaw14.ViewLives'. -/
def viewLivesUptoCard : Claim7 := { stood := { row := viewLivesUptoRow, standIns := [], harness := (true, "4b421b92a9ba4a1b4aa2d91e0cfb36618aa1928fa4c2960c103dd3c5cfe03cd0"), looks := false }, kinds := [], alts := [], laidByText := true, laidKinds := [.data], laidTests := true, laidLooks := .later }
def ViewLivesUptoCardSaid : Prop := Claim7.holds Tryz.pinned (.plain (OpenSpec.upto viewLivesSpec)) viewLivesUptoCard

/-- THE SECOND FORM's CARD OF 'exchequerlaw27.TrialRight'. -/
def trialRightUptoCard : Claim7 := { stood := { row := trialRightUptoRow, standIns := [], harness := (true, "4b421b92a9ba4a1b4aa2d91e0cfb36618aa1928fa4c2960c103dd3c5cfe03cd0"), looks := false }, kinds := [], alts := [], laidByText := true, laidKinds := [.data], laidTests := true, laidLooks := .later }
def TrialRightUptoCardSaid : Prop := Claim7.holds Tryz.pinned (.plain (OpenSpec.upto trialRightSpec)) trialRightUptoCard
end Rows
end Go.Proofs.YtknjifhhfccfhaaGreatDoor
