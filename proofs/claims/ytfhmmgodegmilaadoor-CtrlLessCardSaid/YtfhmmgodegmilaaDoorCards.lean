/-
  DERIVED. GIVEN WITH THE SEED: THE CARDS: each row of YtfhmmgodegmilaaDoorRows.lean that lists a variable, with what it lists TIED to the program's text (the seventh form; the later family's looks); each row that meets fmt, with fmt's text TOLD by the authors' own Lean function (tested against real Go, not proved from fmt's source: count such statements apart). THE CARD IS WHAT COUNTS. Prove the row's statement (the work); the ties are given (YtfhmmgodegmilaaDoorTie.lean); close each card by the builder's one call (the guide's Derived/Test/ToyasCard.lean, 'card_holds'). Laid BY PROGRAM, IN A SANDBOX (cutbox-door.mjs). By AI agents, Wed Nov 11 2026. No macro, syntax, notation, axiom, sorry.
-/
import Derived.Test.YtfhmmgodegmilaaDoorRows
import GoSem.ClaimSeven
namespace Go.Proofs.YtfhmmgodegmilaaDoor
namespace Rows

/-- THE TIED CARD OF 'exchequerlaw20.SeqnRises'. -/
def seqnRisesCard : Claim7 := { stood := { row := seqnRisesRow, standIns := [], harness := (true, "394f0c738ace5f8e4051db6d9a151e66997b20dc3c4225f811eaf6592b1d4fdb"), looks := false }, kinds := [], alts := [], laidByText := true, laidKinds := [.data], laidTests := true, laidLooks := .later }
def SeqnRisesCardSaid : Prop := Claim7.holds Tryd.pinned (.plain (OpenSpec.ofChange seqnRisesSpec)) seqnRisesCard

/-- THE TIED CARD OF 'exchequerlaw29.CtrlLess'. -/
def ctrlLessCard : Claim7 := { stood := { row := ctrlLessRow, standIns := [], harness := (true, "394f0c738ace5f8e4051db6d9a151e66997b20dc3c4225f811eaf6592b1d4fdb"), looks := false }, kinds := [], alts := [], laidByText := true, laidKinds := [.data], laidTests := true, laidLooks := .later }
def CtrlLessCardSaid : Prop := Claim7.holds Tryd.pinned (.plain (OpenSpec.ofChange ctrlLessSpec)) ctrlLessCard

/-- THE SECOND FORM's CARD OF 'exchequerlaw20.SeqnRises'. -/
def seqnRisesUptoCard : Claim7 := { stood := { row := seqnRisesUptoRow, standIns := [], harness := (true, "394f0c738ace5f8e4051db6d9a151e66997b20dc3c4225f811eaf6592b1d4fdb"), looks := false }, kinds := [], alts := [], laidByText := true, laidKinds := [.data], laidTests := true, laidLooks := .later }
def SeqnRisesUptoCardSaid : Prop := Claim7.holds Tryd.pinned (.plain (OpenSpec.upto seqnRisesSpec)) seqnRisesUptoCard

/-- THE SECOND FORM's CARD OF 'exchequerlaw29.CtrlLess'. -/
def ctrlLessUptoCard : Claim7 := { stood := { row := ctrlLessUptoRow, standIns := [], harness := (true, "394f0c738ace5f8e4051db6d9a151e66997b20dc3c4225f811eaf6592b1d4fdb"), looks := false }, kinds := [], alts := [], laidByText := true, laidKinds := [.data], laidTests := true, laidLooks := .later }
def CtrlLessUptoCardSaid : Prop := Claim7.holds Tryd.pinned (.plain (OpenSpec.upto ctrlLessSpec)) ctrlLessUptoCard
end Rows
end Go.Proofs.YtfhmmgodegmilaaDoor
