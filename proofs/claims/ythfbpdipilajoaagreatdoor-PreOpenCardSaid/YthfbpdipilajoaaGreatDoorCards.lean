/-
  DERIVED. GIVEN WITH THE SEED: THE CARDS: each row of YthfbpdipilajoaaGreatDoorRows.lean that lists a variable, with what it lists TIED to the program's text (the seventh form; the later family's looks); each row that meets fmt, with fmt's text TOLD by the authors' own Lean function (tested against real Go, not proved from fmt's source: count such statements apart). THE CARD IS WHAT COUNTS. Prove the row's statement (the work); the ties are given (YthfbpdipilajoaaGreatDoorTie.lean); close each card by the builder's one call (the guide's Derived/Test/ToyasCard.lean, 'card_holds'). Laid BY PROGRAM, IN A SANDBOX (cutbox-door.mjs). By AI agents, Wed Nov 11 2026. No macro, syntax, notation, axiom, sorry.
-/
import Derived.Test.YthfbpdipilajoaaGreatDoorRows
import GoSem.ClaimSeven
namespace Go.Proofs.YthfbpdipilajoaaGreatDoor
namespace Rows

/-- THE TIED CARD OF 'exchequerlaw31.PreOpen'. -/
def preOpenCard : Claim7 := { stood := { row := preOpenRow, standIns := [], harness := (true, "00cd40dd8b0eae61ae71f954732d303c5afa0f2f312805ddaeaa302db252cf98"), looks := false }, kinds := [], alts := [], laidByText := true, laidKinds := [.data], laidTests := true, laidLooks := .later }
def PreOpenCardSaid : Prop := Claim7.holds Tryz.pinned (.plain (OpenSpec.ofChange preOpenSpec)) preOpenCard

/-- THE TIED CARD OF 'exchequerlaw20.SeqnGives'. -/
def seqnGivesCard : Claim7 := { stood := { row := seqnGivesRow, standIns := [], harness := (true, "00cd40dd8b0eae61ae71f954732d303c5afa0f2f312805ddaeaa302db252cf98"), looks := false }, kinds := [], alts := [], laidByText := true, laidKinds := [.data], laidTests := true, laidLooks := .later }
def SeqnGivesCardSaid : Prop := Claim7.holds Tryz.pinned (.plain (OpenSpec.ofChange seqnGivesSpec)) seqnGivesCard

/-- THE TIED CARD OF 'exchequerlaw22.YearsStay'. -/
def yearsStayCard : Claim7 := { stood := { row := yearsStayRow, standIns := [], harness := (true, "00cd40dd8b0eae61ae71f954732d303c5afa0f2f312805ddaeaa302db252cf98"), looks := false }, kinds := [], alts := [], laidByText := true, laidKinds := [.data], laidTests := true, laidLooks := .later }
def YearsStayCardSaid : Prop := Claim7.holds Tryz.pinned (.plain (OpenSpec.ofChange yearsStaySpec)) yearsStayCard

/-- THE TIED CARD OF 'exchequerlaw21.ChartOnce'. -/
def chartOnceCard : Claim7 := { stood := { row := chartOnceRow, standIns := [], harness := (true, "00cd40dd8b0eae61ae71f954732d303c5afa0f2f312805ddaeaa302db252cf98"), looks := false }, kinds := [], alts := [], laidByText := true, laidKinds := [.data], laidTests := true, laidLooks := .later }
def ChartOnceCardSaid : Prop := Claim7.holds Tryz.pinned (.plain (OpenSpec.ofChange chartOnceSpec)) chartOnceCard

/-- THE TIED CARD OF 'exchequerlaw25.BalBack'. -/
def balBackCard : Claim7 := { stood := { row := balBackRow, standIns := [], harness := (true, "00cd40dd8b0eae61ae71f954732d303c5afa0f2f312805ddaeaa302db252cf98"), looks := false }, kinds := [], alts := [], laidByText := true, laidKinds := [.data], laidTests := true, laidLooks := .later }
def BalBackCardSaid : Prop := Claim7.holds Tryz.pinned (.plain (OpenSpec.ofChange balBackSpec)) balBackCard

/-- THE TIED CARD OF 'exchequerlaw22.YearsLive'. -/
def yearsLiveCard : Claim7 := { stood := { row := yearsLiveRow, standIns := [], harness := (true, "00cd40dd8b0eae61ae71f954732d303c5afa0f2f312805ddaeaa302db252cf98"), looks := false }, kinds := [], alts := [], laidByText := true, laidKinds := [.data], laidTests := true, laidLooks := .later }
def YearsLiveCardSaid : Prop := Claim7.holds Tryz.pinned (.plain (OpenSpec.ofChange yearsLiveSpec)) yearsLiveCard

/-- THE TIED CARD OF 'exchequerlaw28.TreeEnds'. -/
def treeEndsCard : Claim7 := { stood := { row := treeEndsRow, standIns := [], harness := (true, "00cd40dd8b0eae61ae71f954732d303c5afa0f2f312805ddaeaa302db252cf98"), looks := false }, kinds := [], alts := [], laidByText := true, laidKinds := [.data], laidTests := true, laidLooks := .later }
def TreeEndsCardSaid : Prop := Claim7.holds Tryz.pinned (.plain (OpenSpec.ofChange treeEndsSpec)) treeEndsCard

/-- THE TIED CARD OF 'exchequerlaw28.TreeTells'. -/
def treeTellsCard : Claim7 := { stood := { row := treeTellsRow, standIns := [], harness := (true, "00cd40dd8b0eae61ae71f954732d303c5afa0f2f312805ddaeaa302db252cf98"), looks := false }, kinds := [], alts := [], laidByText := true, laidKinds := [.data], laidTests := true, laidLooks := .later }
def TreeTellsCardSaid : Prop := Claim7.holds Tryz.pinned (.plain (OpenSpec.ofChange treeTellsSpec)) treeTellsCard

/-- THE TIED CARD OF 'exchequerlaw23.LinesCheck'. -/
def linesCheckCard : Claim7 := { stood := { row := linesCheckRow, standIns := [], harness := (true, "00cd40dd8b0eae61ae71f954732d303c5afa0f2f312805ddaeaa302db252cf98"), looks := false }, kinds := [], alts := [], laidByText := true, laidKinds := [.data], laidTests := true, laidLooks := .later }
def LinesCheckCardSaid : Prop := Claim7.holds Tryz.pinned (.plain (OpenSpec.ofChange linesCheckSpec)) linesCheckCard

/-- THE TIED CARD OF 'exchequerlaw23.LinesOrder'. -/
def linesOrderCard : Claim7 := { stood := { row := linesOrderRow, standIns := [], harness := (true, "00cd40dd8b0eae61ae71f954732d303c5afa0f2f312805ddaeaa302db252cf98"), looks := false }, kinds := [], alts := [], laidByText := true, laidKinds := [.data], laidTests := true, laidLooks := .later }
def LinesOrderCardSaid : Prop := Claim7.holds Tryz.pinned (.plain (OpenSpec.ofChange linesOrderSpec)) linesOrderCard

/-- THE SECOND FORM's CARD OF 'exchequerlaw31.PreOpen'. -/
def preOpenUptoCard : Claim7 := { stood := { row := preOpenUptoRow, standIns := [], harness := (true, "00cd40dd8b0eae61ae71f954732d303c5afa0f2f312805ddaeaa302db252cf98"), looks := false }, kinds := [], alts := [], laidByText := true, laidKinds := [.data], laidTests := true, laidLooks := .later }
def PreOpenUptoCardSaid : Prop := Claim7.holds Tryz.pinned (.plain (OpenSpec.upto preOpenSpec)) preOpenUptoCard

/-- THE SECOND FORM's CARD OF 'exchequerlaw20.SeqnGives'. -/
def seqnGivesUptoCard : Claim7 := { stood := { row := seqnGivesUptoRow, standIns := [], harness := (true, "00cd40dd8b0eae61ae71f954732d303c5afa0f2f312805ddaeaa302db252cf98"), looks := false }, kinds := [], alts := [], laidByText := true, laidKinds := [.data], laidTests := true, laidLooks := .later }
def SeqnGivesUptoCardSaid : Prop := Claim7.holds Tryz.pinned (.plain (OpenSpec.upto seqnGivesSpec)) seqnGivesUptoCard

/-- THE SECOND FORM's CARD OF 'exchequerlaw22.YearsStay'. -/
def yearsStayUptoCard : Claim7 := { stood := { row := yearsStayUptoRow, standIns := [], harness := (true, "00cd40dd8b0eae61ae71f954732d303c5afa0f2f312805ddaeaa302db252cf98"), looks := false }, kinds := [], alts := [], laidByText := true, laidKinds := [.data], laidTests := true, laidLooks := .later }
def YearsStayUptoCardSaid : Prop := Claim7.holds Tryz.pinned (.plain (OpenSpec.upto yearsStaySpec)) yearsStayUptoCard

/-- THE SECOND FORM's CARD OF 'exchequerlaw21.ChartOnce'. -/
def chartOnceUptoCard : Claim7 := { stood := { row := chartOnceUptoRow, standIns := [], harness := (true, "00cd40dd8b0eae61ae71f954732d303c5afa0f2f312805ddaeaa302db252cf98"), looks := false }, kinds := [], alts := [], laidByText := true, laidKinds := [.data], laidTests := true, laidLooks := .later }
def ChartOnceUptoCardSaid : Prop := Claim7.holds Tryz.pinned (.plain (OpenSpec.upto chartOnceSpec)) chartOnceUptoCard

/-- THE SECOND FORM's CARD OF 'exchequerlaw25.BalBack'. -/
def balBackUptoCard : Claim7 := { stood := { row := balBackUptoRow, standIns := [], harness := (true, "00cd40dd8b0eae61ae71f954732d303c5afa0f2f312805ddaeaa302db252cf98"), looks := false }, kinds := [], alts := [], laidByText := true, laidKinds := [.data], laidTests := true, laidLooks := .later }
def BalBackUptoCardSaid : Prop := Claim7.holds Tryz.pinned (.plain (OpenSpec.upto balBackSpec)) balBackUptoCard

/-- THE SECOND FORM's CARD OF 'exchequerlaw22.YearsLive'. -/
def yearsLiveUptoCard : Claim7 := { stood := { row := yearsLiveUptoRow, standIns := [], harness := (true, "00cd40dd8b0eae61ae71f954732d303c5afa0f2f312805ddaeaa302db252cf98"), looks := false }, kinds := [], alts := [], laidByText := true, laidKinds := [.data], laidTests := true, laidLooks := .later }
def YearsLiveUptoCardSaid : Prop := Claim7.holds Tryz.pinned (.plain (OpenSpec.upto yearsLiveSpec)) yearsLiveUptoCard

/-- THE SECOND FORM's CARD OF 'exchequerlaw28.TreeEnds'. -/
def treeEndsUptoCard : Claim7 := { stood := { row := treeEndsUptoRow, standIns := [], harness := (true, "00cd40dd8b0eae61ae71f954732d303c5afa0f2f312805ddaeaa302db252cf98"), looks := false }, kinds := [], alts := [], laidByText := true, laidKinds := [.data], laidTests := true, laidLooks := .later }
def TreeEndsUptoCardSaid : Prop := Claim7.holds Tryz.pinned (.plain (OpenSpec.upto treeEndsSpec)) treeEndsUptoCard

/-- THE SECOND FORM's CARD OF 'exchequerlaw28.TreeTells'. -/
def treeTellsUptoCard : Claim7 := { stood := { row := treeTellsUptoRow, standIns := [], harness := (true, "00cd40dd8b0eae61ae71f954732d303c5afa0f2f312805ddaeaa302db252cf98"), looks := false }, kinds := [], alts := [], laidByText := true, laidKinds := [.data], laidTests := true, laidLooks := .later }
def TreeTellsUptoCardSaid : Prop := Claim7.holds Tryz.pinned (.plain (OpenSpec.upto treeTellsSpec)) treeTellsUptoCard

/-- THE SECOND FORM's CARD OF 'exchequerlaw23.LinesCheck'. -/
def linesCheckUptoCard : Claim7 := { stood := { row := linesCheckUptoRow, standIns := [], harness := (true, "00cd40dd8b0eae61ae71f954732d303c5afa0f2f312805ddaeaa302db252cf98"), looks := false }, kinds := [], alts := [], laidByText := true, laidKinds := [.data], laidTests := true, laidLooks := .later }
def LinesCheckUptoCardSaid : Prop := Claim7.holds Tryz.pinned (.plain (OpenSpec.upto linesCheckSpec)) linesCheckUptoCard

/-- THE SECOND FORM's CARD OF 'exchequerlaw23.LinesOrder'. -/
def linesOrderUptoCard : Claim7 := { stood := { row := linesOrderUptoRow, standIns := [], harness := (true, "00cd40dd8b0eae61ae71f954732d303c5afa0f2f312805ddaeaa302db252cf98"), looks := false }, kinds := [], alts := [], laidByText := true, laidKinds := [.data], laidTests := true, laidLooks := .later }
def LinesOrderUptoCardSaid : Prop := Claim7.holds Tryz.pinned (.plain (OpenSpec.upto linesOrderSpec)) linesOrderUptoCard
end Rows
end Go.Proofs.YthfbpdipilajoaaGreatDoor
