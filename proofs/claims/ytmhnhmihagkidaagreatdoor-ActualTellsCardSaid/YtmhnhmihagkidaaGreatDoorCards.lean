/-
  DERIVED. GIVEN WITH THE SEED: THE CARDS: each row of YtmhnhmihagkidaaGreatDoorRows.lean that lists a variable, with what it lists TIED to the program's text (the seventh form; the later family's looks); each row that meets fmt, with fmt's text TOLD by the authors' own Lean function (tested against real Go, not proved from fmt's source: count such statements apart). THE CARD IS WHAT COUNTS. Prove the row's statement (the work); the ties are given (YtmhnhmihagkidaaGreatDoorTie.lean); close each card by the builder's one call (the guide's Derived/Test/ToyasCard.lean, 'card_holds'). Laid BY PROGRAM, IN A SANDBOX (cutbox-door.mjs). By AI agents, Wed Nov 11 2026. No macro, syntax, notation, axiom, sorry.
-/
import Derived.Test.YtmhnhmihagkidaaGreatDoorRows
import GoSem.ClaimSeven
namespace Go.Proofs.YtmhnhmihagkidaaGreatDoor
namespace Rows

/-- THE TIED CARD OF 'exchequerlaw50.ActualBeyond'. -/
def actualBeyondCard : Claim7 := { stood := { row := actualBeyondRow, standIns := [], harness := (true, "b15e1b9d8e1e5c9870ce18e1c0b13e0accb7b9dd9937ca16f37ff6d14917f902"), looks := false }, kinds := [], alts := [], laidByText := true, laidKinds := [.data], laidTests := true, laidLooks := .later }
def ActualBeyondCardSaid : Prop := Claim7.holds Tryz.pinned (.plain (OpenSpec.ofChange actualBeyondSpec)) actualBeyondCard

/-- THE TIED CARD OF 'exchequerlaw50.ActualTells'. -/
def actualTellsCard : Claim7 := { stood := { row := actualTellsRow, standIns := [], harness := (true, "b15e1b9d8e1e5c9870ce18e1c0b13e0accb7b9dd9937ca16f37ff6d14917f902"), looks := false }, kinds := [], alts := [], laidByText := true, laidKinds := [.data], laidTests := true, laidLooks := .later }
def ActualTellsCardSaid : Prop := Claim7.holds Tryz.pinned (.plain (OpenSpec.ofChange actualTellsSpec)) actualTellsCard

/-- THE TIED CARD OF 'exchequerlaw30.DocsBack'. -/
def docsBackCard : Claim7 := { stood := { row := docsBackRow, standIns := [], harness := (true, "b15e1b9d8e1e5c9870ce18e1c0b13e0accb7b9dd9937ca16f37ff6d14917f902"), looks := false }, kinds := [], alts := [], laidByText := true, laidKinds := [.data], laidTests := true, laidLooks := .later }
def DocsBackCardSaid : Prop := Claim7.holds Tryz.pinned (.plain (OpenSpec.ofChange docsBackSpec)) docsBackCard

/-- THE TIED CARD OF 'exchequerlaw30.DocsLive'. -/
def docsLiveCard : Claim7 := { stood := { row := docsLiveRow, standIns := [], harness := (true, "b15e1b9d8e1e5c9870ce18e1c0b13e0accb7b9dd9937ca16f37ff6d14917f902"), looks := false }, kinds := [], alts := [], laidByText := true, laidKinds := [.data], laidTests := true, laidLooks := .later }
def DocsLiveCardSaid : Prop := Claim7.holds Tryz.pinned (.plain (OpenSpec.ofChange docsLiveSpec)) docsLiveCard

/-- THE TIED CARD OF 'exchequerlaw29.CtrlHolds'. -/
def ctrlHoldsCard : Claim7 := { stood := { row := ctrlHoldsRow, standIns := [], harness := (true, "b15e1b9d8e1e5c9870ce18e1c0b13e0accb7b9dd9937ca16f37ff6d14917f902"), looks := false }, kinds := [], alts := [], laidByText := true, laidKinds := [.data], laidTests := true, laidLooks := .later }
def CtrlHoldsCardSaid : Prop := Claim7.holds Tryz.pinned (.plain (OpenSpec.ofChange ctrlHoldsSpec)) ctrlHoldsCard

/-- THE TIED CARD OF 'exchequerlaw32.EncNoMore'. -/
def encNoMoreCard : Claim7 := { stood := { row := encNoMoreRow, standIns := [], harness := (true, "b15e1b9d8e1e5c9870ce18e1c0b13e0accb7b9dd9937ca16f37ff6d14917f902"), looks := false }, kinds := [], alts := [], laidByText := true, laidKinds := [.data], laidTests := true, laidLooks := .later }
def EncNoMoreCardSaid : Prop := Claim7.holds Tryz.pinned (.plain (OpenSpec.ofChange encNoMoreSpec)) encNoMoreCard

/-- THE TIED CARD OF 'exchequerlaw31.PreNew'. -/
def preNewCard : Claim7 := { stood := { row := preNewRow, standIns := [], harness := (true, "b15e1b9d8e1e5c9870ce18e1c0b13e0accb7b9dd9937ca16f37ff6d14917f902"), looks := false }, kinds := [], alts := [], laidByText := true, laidKinds := [.data], laidTests := true, laidLooks := .later }
def PreNewCardSaid : Prop := Claim7.holds Tryz.pinned (.plain (OpenSpec.ofChange preNewSpec)) preNewCard

/-- THE TIED CARD OF 'exchequerlaw32.EncNew'. -/
def encNewCard : Claim7 := { stood := { row := encNewRow, standIns := [], harness := (true, "b15e1b9d8e1e5c9870ce18e1c0b13e0accb7b9dd9937ca16f37ff6d14917f902"), looks := false }, kinds := [], alts := [], laidByText := true, laidKinds := [.data], laidTests := true, laidLooks := .later }
def EncNewCardSaid : Prop := Claim7.holds Tryz.pinned (.plain (OpenSpec.ofChange encNewSpec)) encNewCard

/-- THE SECOND FORM's CARD OF 'exchequerlaw50.ActualBeyond'. -/
def actualBeyondUptoCard : Claim7 := { stood := { row := actualBeyondUptoRow, standIns := [], harness := (true, "b15e1b9d8e1e5c9870ce18e1c0b13e0accb7b9dd9937ca16f37ff6d14917f902"), looks := false }, kinds := [], alts := [], laidByText := true, laidKinds := [.data], laidTests := true, laidLooks := .later }
def ActualBeyondUptoCardSaid : Prop := Claim7.holds Tryz.pinned (.plain (OpenSpec.upto actualBeyondSpec)) actualBeyondUptoCard

/-- THE SECOND FORM's CARD OF 'exchequerlaw50.ActualTells'. -/
def actualTellsUptoCard : Claim7 := { stood := { row := actualTellsUptoRow, standIns := [], harness := (true, "b15e1b9d8e1e5c9870ce18e1c0b13e0accb7b9dd9937ca16f37ff6d14917f902"), looks := false }, kinds := [], alts := [], laidByText := true, laidKinds := [.data], laidTests := true, laidLooks := .later }
def ActualTellsUptoCardSaid : Prop := Claim7.holds Tryz.pinned (.plain (OpenSpec.upto actualTellsSpec)) actualTellsUptoCard

/-- THE SECOND FORM's CARD OF 'exchequerlaw30.DocsBack'. -/
def docsBackUptoCard : Claim7 := { stood := { row := docsBackUptoRow, standIns := [], harness := (true, "b15e1b9d8e1e5c9870ce18e1c0b13e0accb7b9dd9937ca16f37ff6d14917f902"), looks := false }, kinds := [], alts := [], laidByText := true, laidKinds := [.data], laidTests := true, laidLooks := .later }
def DocsBackUptoCardSaid : Prop := Claim7.holds Tryz.pinned (.plain (OpenSpec.upto docsBackSpec)) docsBackUptoCard

/-- THE SECOND FORM's CARD OF 'exchequerlaw30.DocsLive'. -/
def docsLiveUptoCard : Claim7 := { stood := { row := docsLiveUptoRow, standIns := [], harness := (true, "b15e1b9d8e1e5c9870ce18e1c0b13e0accb7b9dd9937ca16f37ff6d14917f902"), looks := false }, kinds := [], alts := [], laidByText := true, laidKinds := [.data], laidTests := true, laidLooks := .later }
def DocsLiveUptoCardSaid : Prop := Claim7.holds Tryz.pinned (.plain (OpenSpec.upto docsLiveSpec)) docsLiveUptoCard

/-- THE SECOND FORM's CARD OF 'exchequerlaw29.CtrlHolds'. -/
def ctrlHoldsUptoCard : Claim7 := { stood := { row := ctrlHoldsUptoRow, standIns := [], harness := (true, "b15e1b9d8e1e5c9870ce18e1c0b13e0accb7b9dd9937ca16f37ff6d14917f902"), looks := false }, kinds := [], alts := [], laidByText := true, laidKinds := [.data], laidTests := true, laidLooks := .later }
def CtrlHoldsUptoCardSaid : Prop := Claim7.holds Tryz.pinned (.plain (OpenSpec.upto ctrlHoldsSpec)) ctrlHoldsUptoCard

/-- THE SECOND FORM's CARD OF 'exchequerlaw32.EncNoMore'. -/
def encNoMoreUptoCard : Claim7 := { stood := { row := encNoMoreUptoRow, standIns := [], harness := (true, "b15e1b9d8e1e5c9870ce18e1c0b13e0accb7b9dd9937ca16f37ff6d14917f902"), looks := false }, kinds := [], alts := [], laidByText := true, laidKinds := [.data], laidTests := true, laidLooks := .later }
def EncNoMoreUptoCardSaid : Prop := Claim7.holds Tryz.pinned (.plain (OpenSpec.upto encNoMoreSpec)) encNoMoreUptoCard

/-- THE SECOND FORM's CARD OF 'exchequerlaw31.PreNew'. -/
def preNewUptoCard : Claim7 := { stood := { row := preNewUptoRow, standIns := [], harness := (true, "b15e1b9d8e1e5c9870ce18e1c0b13e0accb7b9dd9937ca16f37ff6d14917f902"), looks := false }, kinds := [], alts := [], laidByText := true, laidKinds := [.data], laidTests := true, laidLooks := .later }
def PreNewUptoCardSaid : Prop := Claim7.holds Tryz.pinned (.plain (OpenSpec.upto preNewSpec)) preNewUptoCard

/-- THE SECOND FORM's CARD OF 'exchequerlaw32.EncNew'. -/
def encNewUptoCard : Claim7 := { stood := { row := encNewUptoRow, standIns := [], harness := (true, "b15e1b9d8e1e5c9870ce18e1c0b13e0accb7b9dd9937ca16f37ff6d14917f902"), looks := false }, kinds := [], alts := [], laidByText := true, laidKinds := [.data], laidTests := true, laidLooks := .later }
def EncNewUptoCardSaid : Prop := Claim7.holds Tryz.pinned (.plain (OpenSpec.upto encNewSpec)) encNewUptoCard
end Rows
end Go.Proofs.YtmhnhmihagkidaaGreatDoor
