/-
  DERIVED. GIVEN WITH THE SEED: THE CARDS: each row of YtiggbkhkmecagaaGreatDoorRows.lean that lists a variable, with what it lists TIED to the program's text (the seventh form; the later family's looks); each row that meets fmt, with fmt's text TOLD by the authors' own Lean function (tested against real Go, not proved from fmt's source: count such statements apart). THE CARD IS WHAT COUNTS. Prove the row's statement (the work); the ties are given (YtiggbkhkmecagaaGreatDoorTie.lean); close each card by the builder's one call (the guide's Derived/Test/ToyasCard.lean, 'card_holds'). Laid BY PROGRAM, IN A SANDBOX (cutbox-door.mjs). By AI agents, Wed Nov 11 2026. No macro, syntax, notation, axiom, sorry.
-/
import Derived.Test.YtiggbkhkmecagaaGreatDoorRows
import GoSem.ClaimSeven
namespace Go.Proofs.YtiggbkhkmecagaaGreatDoor
namespace Rows

/-- THE TIED CARD OF 'exchequerlaw21.ChartOnce'. -/
def chartOnceCard : Claim7 := { stood := { row := chartOnceRow, standIns := [], harness := (true, "1771280b7e8c472985a0f71cd3c2bd4648ed11988049102fe4249f17d842a580"), looks := false }, kinds := [], alts := [], laidByText := true, laidKinds := [.data], laidTests := true, laidLooks := .later }
def ChartOnceCardSaid : Prop := Claim7.holds Tryz.pinned (.plain (OpenSpec.ofChange chartOnceSpec)) chartOnceCard

/-- THE TIED CARD OF 'exchequerlaw23.LinesCheck'. -/
def linesCheckCard : Claim7 := { stood := { row := linesCheckRow, standIns := [], harness := (true, "1771280b7e8c472985a0f71cd3c2bd4648ed11988049102fe4249f17d842a580"), looks := false }, kinds := [], alts := [], laidByText := true, laidKinds := [.data], laidTests := true, laidLooks := .later }
def LinesCheckCardSaid : Prop := Claim7.holds Tryz.pinned (.plain (OpenSpec.ofChange linesCheckSpec)) linesCheckCard

/-- THE TIED CARD OF 'exchequerlaw23.LinesOrder'. -/
def linesOrderCard : Claim7 := { stood := { row := linesOrderRow, standIns := [], harness := (true, "1771280b7e8c472985a0f71cd3c2bd4648ed11988049102fe4249f17d842a580"), looks := false }, kinds := [], alts := [], laidByText := true, laidKinds := [.data], laidTests := true, laidLooks := .later }
def LinesOrderCardSaid : Prop := Claim7.holds Tryz.pinned (.plain (OpenSpec.ofChange linesOrderSpec)) linesOrderCard

/-- THE TIED CARD OF 'exchequerlaw30.DocsBack'. -/
def docsBackCard : Claim7 := { stood := { row := docsBackRow, standIns := [], harness := (true, "1771280b7e8c472985a0f71cd3c2bd4648ed11988049102fe4249f17d842a580"), looks := false }, kinds := [], alts := [], laidByText := true, laidKinds := [.data], laidTests := true, laidLooks := .later }
def DocsBackCardSaid : Prop := Claim7.holds Tryz.pinned (.plain (OpenSpec.ofChange docsBackSpec)) docsBackCard

/-- THE TIED CARD OF 'exchequerlaw30.DocsLive'. -/
def docsLiveCard : Claim7 := { stood := { row := docsLiveRow, standIns := [], harness := (true, "1771280b7e8c472985a0f71cd3c2bd4648ed11988049102fe4249f17d842a580"), looks := false }, kinds := [], alts := [], laidByText := true, laidKinds := [.data], laidTests := true, laidLooks := .later }
def DocsLiveCardSaid : Prop := Claim7.holds Tryz.pinned (.plain (OpenSpec.ofChange docsLiveSpec)) docsLiveCard

/-- THE TIED CARD OF 'exchequerlaw32.EncNoMore'. -/
def encNoMoreCard : Claim7 := { stood := { row := encNoMoreRow, standIns := [], harness := (true, "1771280b7e8c472985a0f71cd3c2bd4648ed11988049102fe4249f17d842a580"), looks := false }, kinds := [], alts := [], laidByText := true, laidKinds := [.data], laidTests := true, laidLooks := .later }
def EncNoMoreCardSaid : Prop := Claim7.holds Tryz.pinned (.plain (OpenSpec.ofChange encNoMoreSpec)) encNoMoreCard

/-- THE TIED CARD OF 'exchequerlaw29.CtrlHolds'. -/
def ctrlHoldsCard : Claim7 := { stood := { row := ctrlHoldsRow, standIns := [], harness := (true, "1771280b7e8c472985a0f71cd3c2bd4648ed11988049102fe4249f17d842a580"), looks := false }, kinds := [], alts := [], laidByText := true, laidKinds := [.data], laidTests := true, laidLooks := .later }
def CtrlHoldsCardSaid : Prop := Claim7.holds Tryz.pinned (.plain (OpenSpec.ofChange ctrlHoldsSpec)) ctrlHoldsCard

/-- THE TIED CARD OF 'exchequerlaw31.PreNew'. -/
def preNewCard : Claim7 := { stood := { row := preNewRow, standIns := [], harness := (true, "1771280b7e8c472985a0f71cd3c2bd4648ed11988049102fe4249f17d842a580"), looks := false }, kinds := [], alts := [], laidByText := true, laidKinds := [.data], laidTests := true, laidLooks := .later }
def PreNewCardSaid : Prop := Claim7.holds Tryz.pinned (.plain (OpenSpec.ofChange preNewSpec)) preNewCard

/-- THE TIED CARD OF 'exchequerlaw32.EncNew'. -/
def encNewCard : Claim7 := { stood := { row := encNewRow, standIns := [], harness := (true, "1771280b7e8c472985a0f71cd3c2bd4648ed11988049102fe4249f17d842a580"), looks := false }, kinds := [], alts := [], laidByText := true, laidKinds := [.data], laidTests := true, laidLooks := .later }
def EncNewCardSaid : Prop := Claim7.holds Tryz.pinned (.plain (OpenSpec.ofChange encNewSpec)) encNewCard

/-- THE SECOND FORM's CARD OF 'exchequerlaw21.ChartOnce'. -/
def chartOnceUptoCard : Claim7 := { stood := { row := chartOnceUptoRow, standIns := [], harness := (true, "1771280b7e8c472985a0f71cd3c2bd4648ed11988049102fe4249f17d842a580"), looks := false }, kinds := [], alts := [], laidByText := true, laidKinds := [.data], laidTests := true, laidLooks := .later }
def ChartOnceUptoCardSaid : Prop := Claim7.holds Tryz.pinned (.plain (OpenSpec.upto chartOnceSpec)) chartOnceUptoCard

/-- THE SECOND FORM's CARD OF 'exchequerlaw23.LinesCheck'. -/
def linesCheckUptoCard : Claim7 := { stood := { row := linesCheckUptoRow, standIns := [], harness := (true, "1771280b7e8c472985a0f71cd3c2bd4648ed11988049102fe4249f17d842a580"), looks := false }, kinds := [], alts := [], laidByText := true, laidKinds := [.data], laidTests := true, laidLooks := .later }
def LinesCheckUptoCardSaid : Prop := Claim7.holds Tryz.pinned (.plain (OpenSpec.upto linesCheckSpec)) linesCheckUptoCard

/-- THE SECOND FORM's CARD OF 'exchequerlaw23.LinesOrder'. -/
def linesOrderUptoCard : Claim7 := { stood := { row := linesOrderUptoRow, standIns := [], harness := (true, "1771280b7e8c472985a0f71cd3c2bd4648ed11988049102fe4249f17d842a580"), looks := false }, kinds := [], alts := [], laidByText := true, laidKinds := [.data], laidTests := true, laidLooks := .later }
def LinesOrderUptoCardSaid : Prop := Claim7.holds Tryz.pinned (.plain (OpenSpec.upto linesOrderSpec)) linesOrderUptoCard

/-- THE SECOND FORM's CARD OF 'exchequerlaw30.DocsBack'. -/
def docsBackUptoCard : Claim7 := { stood := { row := docsBackUptoRow, standIns := [], harness := (true, "1771280b7e8c472985a0f71cd3c2bd4648ed11988049102fe4249f17d842a580"), looks := false }, kinds := [], alts := [], laidByText := true, laidKinds := [.data], laidTests := true, laidLooks := .later }
def DocsBackUptoCardSaid : Prop := Claim7.holds Tryz.pinned (.plain (OpenSpec.upto docsBackSpec)) docsBackUptoCard

/-- THE SECOND FORM's CARD OF 'exchequerlaw30.DocsLive'. -/
def docsLiveUptoCard : Claim7 := { stood := { row := docsLiveUptoRow, standIns := [], harness := (true, "1771280b7e8c472985a0f71cd3c2bd4648ed11988049102fe4249f17d842a580"), looks := false }, kinds := [], alts := [], laidByText := true, laidKinds := [.data], laidTests := true, laidLooks := .later }
def DocsLiveUptoCardSaid : Prop := Claim7.holds Tryz.pinned (.plain (OpenSpec.upto docsLiveSpec)) docsLiveUptoCard

/-- THE SECOND FORM's CARD OF 'exchequerlaw32.EncNoMore'. -/
def encNoMoreUptoCard : Claim7 := { stood := { row := encNoMoreUptoRow, standIns := [], harness := (true, "1771280b7e8c472985a0f71cd3c2bd4648ed11988049102fe4249f17d842a580"), looks := false }, kinds := [], alts := [], laidByText := true, laidKinds := [.data], laidTests := true, laidLooks := .later }
def EncNoMoreUptoCardSaid : Prop := Claim7.holds Tryz.pinned (.plain (OpenSpec.upto encNoMoreSpec)) encNoMoreUptoCard

/-- THE SECOND FORM's CARD OF 'exchequerlaw29.CtrlHolds'. -/
def ctrlHoldsUptoCard : Claim7 := { stood := { row := ctrlHoldsUptoRow, standIns := [], harness := (true, "1771280b7e8c472985a0f71cd3c2bd4648ed11988049102fe4249f17d842a580"), looks := false }, kinds := [], alts := [], laidByText := true, laidKinds := [.data], laidTests := true, laidLooks := .later }
def CtrlHoldsUptoCardSaid : Prop := Claim7.holds Tryz.pinned (.plain (OpenSpec.upto ctrlHoldsSpec)) ctrlHoldsUptoCard

/-- THE SECOND FORM's CARD OF 'exchequerlaw31.PreNew'. -/
def preNewUptoCard : Claim7 := { stood := { row := preNewUptoRow, standIns := [], harness := (true, "1771280b7e8c472985a0f71cd3c2bd4648ed11988049102fe4249f17d842a580"), looks := false }, kinds := [], alts := [], laidByText := true, laidKinds := [.data], laidTests := true, laidLooks := .later }
def PreNewUptoCardSaid : Prop := Claim7.holds Tryz.pinned (.plain (OpenSpec.upto preNewSpec)) preNewUptoCard

/-- THE SECOND FORM's CARD OF 'exchequerlaw32.EncNew'. -/
def encNewUptoCard : Claim7 := { stood := { row := encNewUptoRow, standIns := [], harness := (true, "1771280b7e8c472985a0f71cd3c2bd4648ed11988049102fe4249f17d842a580"), looks := false }, kinds := [], alts := [], laidByText := true, laidKinds := [.data], laidTests := true, laidLooks := .later }
def EncNewUptoCardSaid : Prop := Claim7.holds Tryz.pinned (.plain (OpenSpec.upto encNewSpec)) encNewUptoCard
end Rows
end Go.Proofs.YtiggbkhkmecagaaGreatDoor
