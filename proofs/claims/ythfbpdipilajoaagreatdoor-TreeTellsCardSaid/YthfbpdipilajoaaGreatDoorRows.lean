/-
  NARROWER THAN 'FOR EVERY INPUT', by the rows' own cells (each row's printed sentence says how): PreOpen: laid · SeqnGives: laid · YearsStay: laid · ChartOnce: laid · BalBack: laid · YearsLive: laid · TreeEnds: laid · TreeTells: laid · LinesCheck: laid · LinesOrder: laid.
  DERIVED. THE GIVEN ROWS OF THIS SEAT. 10 by the template 'for every input the law returns true; each argument reads behind the call as it read before'; 0 by the template 'total and deterministic' (their statements: YthfbpdipilajoaaGreatDoorTotals.lean).
  GIVEN WITH THE SEED: the statements are not yours to turn. If you find one false, say at which input.
  Laid BY PROGRAM, IN A SANDBOX (cutbox-rows.mjs): the forced cells as the released guide's own fill.sh prints them over the translation 6217cc39678d66b4… (all of the seat's roots in one cut). By AI agents, Wed Nov 11 2026. No macro, syntax, notation, axiom, sorry.
-/
import Derived.Test.YthfbpdipilajoaaGreatDoorChecked
import GoSem.Claim
import GoSem.ClaimJoined
import GoSem.ClaimMapViews
import Derived.JoinedTies
import Derived.KernelRfl
namespace Go.Proofs.YthfbpdipilajoaaGreatDoor
/- THE CELL 'sum', in the pinned program and in every row, IS THE sha256 OF THE DUMP (.gsa) THAT YthfbpdipilajoaaGreatDoorProg.lean LOADS. Nothing in Lean hashes anything: it is a label: what it is worth is what the hold of that sum in a sandbox is worth. -/
noncomputable def Tryz.pinned : Pinned := { name := "ythfbpdipilajoaagreatdoor", sum := "6217cc39678d66b43b20761e81f76b606fde9b71433b62a3e784299a6da9d873", checked := Tryz.checked }
namespace Rows
def none {H : Type} : Left H := { results := [], args := [] }

/- WHAT THE LISTED PACKAGE-LEVEL VARIABLES READ AS WHEN THE CALL BEGINS. Each datum BY PROGRAM (the guide's laid-datum.mjs) off the statement by which the dump's own 'gosem.cut.vars' lays the variable. In a bare row this is a premise. The card (YthfbpdipilajoaaGreatDoorCards.lean) ties it to the program's text. -/
def laid_exchequer_crc_nibbles {H : Type} : DataW H := .agg [.lit (.int .u32 0), .lit (.int .u32 498536548), .lit (.int .u32 997073096), .lit (.int .u32 651767980), .lit (.int .u32 1994146192), .lit (.int .u32 1802195444), .lit (.int .u32 1303535960), .lit (.int .u32 1342533948), .lit (.int .u32 3988292384), .lit (.int .u32 4027552580), .lit (.int .u32 3604390888), .lit (.int .u32 3412177804), .lit (.int .u32 2607071920), .lit (.int .u32 2262029012), .lit (.int .u32 2685067896), .lit (.int .u32 3183342108)]

/-- 'exchequerlaw31.PreOpen': WHATEVER THE INPUT: true; the input reads as it did. -/
def preOpenSpec : ChangeSpec := { name := "preOpen", fn := fun _ => fun
  | [d1, d2, d3] => { results := [.lit (.bool true)], args := [d1, d2, d3] }
  | _ => none }
def preOpenRow : OpenClaim := { program := "ythfbpdipilajoaagreatdoor", sum := "6217cc39678d66b43b20761e81f76b606fde9b71433b62a3e784299a6da9d873", func := "exchequer/exchequerlaw31.PreOpen", spec := "preOpen", unfollowed := true, recurses := true, named := ["exchequer/crc.nibbles"], apart := false, laid := [("exchequer/crc.nibbles", laid_exchequer_crc_nibbles)] }
def PreOpenSaid : Prop := preOpenRow.holds Tryz.pinned (OpenSpec.ofChange preOpenSpec)

/-- ITS FALSE NEIGHBOUR: 'it returns false'. Refute it at one input. -/
def preOpenWrong : ChangeSpec := { name := "preOpen", fn := fun _ => fun
  | [d1, d2, d3] => { results := [.lit (.bool false)], args := [d1, d2, d3] }
  | _ => none }
def PreOpenWrongFalsely : Prop := preOpenRow.holds Tryz.pinned (OpenSpec.ofChange preOpenWrong)

/-- 'exchequerlaw20.SeqnGives': WHATEVER THE INPUT: true; the input reads as it did. -/
def seqnGivesSpec : ChangeSpec := { name := "seqnGives", fn := fun _ => fun
  | [d1, d2] => { results := [.lit (.bool true)], args := [d1, d2] }
  | _ => none }
def seqnGivesRow : OpenClaim := { program := "ythfbpdipilajoaagreatdoor", sum := "6217cc39678d66b43b20761e81f76b606fde9b71433b62a3e784299a6da9d873", func := "exchequer/exchequerlaw20.SeqnGives", spec := "seqnGives", inPlace := ["internal/bytealg.Compare"], unfollowed := true, recurses := true, named := ["exchequer/crc.nibbles"], apart := false, laid := [("exchequer/crc.nibbles", laid_exchequer_crc_nibbles)] }
def SeqnGivesSaid : Prop := seqnGivesRow.holds Tryz.pinned (OpenSpec.ofChange seqnGivesSpec)

/-- ITS FALSE NEIGHBOUR: 'it returns false'. Refute it at one input. -/
def seqnGivesWrong : ChangeSpec := { name := "seqnGives", fn := fun _ => fun
  | [d1, d2] => { results := [.lit (.bool false)], args := [d1, d2] }
  | _ => none }
def SeqnGivesWrongFalsely : Prop := seqnGivesRow.holds Tryz.pinned (OpenSpec.ofChange seqnGivesWrong)

/-- 'exchequerlaw22.YearsStay': WHATEVER THE INPUT: true; the input reads as it did. -/
def yearsStaySpec : ChangeSpec := { name := "yearsStay", fn := fun _ => fun
  | [d1, d2] => { results := [.lit (.bool true)], args := [d1, d2] }
  | _ => none }
def yearsStayRow : OpenClaim := { program := "ythfbpdipilajoaagreatdoor", sum := "6217cc39678d66b43b20761e81f76b606fde9b71433b62a3e784299a6da9d873", func := "exchequer/exchequerlaw22.YearsStay", spec := "yearsStay", inPlace := ["internal/bytealg.Compare"], unfollowed := true, recurses := true, named := ["exchequer/crc.nibbles"], apart := false, laid := [("exchequer/crc.nibbles", laid_exchequer_crc_nibbles)] }
def YearsStaySaid : Prop := yearsStayRow.holds Tryz.pinned (OpenSpec.ofChange yearsStaySpec)

/-- ITS FALSE NEIGHBOUR: 'it returns false'. Refute it at one input. -/
def yearsStayWrong : ChangeSpec := { name := "yearsStay", fn := fun _ => fun
  | [d1, d2] => { results := [.lit (.bool false)], args := [d1, d2] }
  | _ => none }
def YearsStayWrongFalsely : Prop := yearsStayRow.holds Tryz.pinned (OpenSpec.ofChange yearsStayWrong)

/-- 'exchequerlaw21.ChartOnce': WHATEVER THE INPUT: true; the input reads as it did. -/
def chartOnceSpec : ChangeSpec := { name := "chartOnce", fn := fun _ => fun
  | [d] => { results := [.lit (.bool true)], args := [d] }
  | _ => none }
def chartOnceRow : OpenClaim := { program := "ythfbpdipilajoaagreatdoor", sum := "6217cc39678d66b43b20761e81f76b606fde9b71433b62a3e784299a6da9d873", func := "exchequer/exchequerlaw21.ChartOnce", spec := "chartOnce", inPlace := ["internal/bytealg.Compare"], unfollowed := true, recurses := true, named := ["exchequer/crc.nibbles"], apart := false, laid := [("exchequer/crc.nibbles", laid_exchequer_crc_nibbles)] }
def ChartOnceSaid : Prop := chartOnceRow.holds Tryz.pinned (OpenSpec.ofChange chartOnceSpec)

/-- ITS FALSE NEIGHBOUR: 'it returns false'. Refute it at one input. -/
def chartOnceWrong : ChangeSpec := { name := "chartOnce", fn := fun _ => fun
  | [d] => { results := [.lit (.bool false)], args := [d] }
  | _ => none }
def ChartOnceWrongFalsely : Prop := chartOnceRow.holds Tryz.pinned (OpenSpec.ofChange chartOnceWrong)

/-- 'exchequerlaw25.BalBack': WHATEVER THE INPUT: true; the input reads as it did. -/
def balBackSpec : ChangeSpec := { name := "balBack", fn := fun _ => fun
  | [d] => { results := [.lit (.bool true)], args := [d] }
  | _ => none }
def balBackRow : OpenClaim := { program := "ythfbpdipilajoaagreatdoor", sum := "6217cc39678d66b43b20761e81f76b606fde9b71433b62a3e784299a6da9d873", func := "exchequer/exchequerlaw25.BalBack", spec := "balBack", inPlace := ["internal/bytealg.Compare"], unfollowed := true, recurses := true, named := ["exchequer/crc.nibbles"], apart := false, laid := [("exchequer/crc.nibbles", laid_exchequer_crc_nibbles)] }
def BalBackSaid : Prop := balBackRow.holds Tryz.pinned (OpenSpec.ofChange balBackSpec)

/-- ITS FALSE NEIGHBOUR: 'it returns false'. Refute it at one input. -/
def balBackWrong : ChangeSpec := { name := "balBack", fn := fun _ => fun
  | [d] => { results := [.lit (.bool false)], args := [d] }
  | _ => none }
def BalBackWrongFalsely : Prop := balBackRow.holds Tryz.pinned (OpenSpec.ofChange balBackWrong)

/-- 'exchequerlaw22.YearsLive': WHATEVER THE INPUT: true; the input reads as it did. -/
def yearsLiveSpec : ChangeSpec := { name := "yearsLive", fn := fun _ => fun
  | [d1, d2] => { results := [.lit (.bool true)], args := [d1, d2] }
  | _ => none }
def yearsLiveRow : OpenClaim := { program := "ythfbpdipilajoaagreatdoor", sum := "6217cc39678d66b43b20761e81f76b606fde9b71433b62a3e784299a6da9d873", func := "exchequer/exchequerlaw22.YearsLive", spec := "yearsLive", inPlace := ["internal/bytealg.Compare"], unfollowed := true, recurses := true, named := ["exchequer/crc.nibbles"], apart := false, laid := [("exchequer/crc.nibbles", laid_exchequer_crc_nibbles)] }
def YearsLiveSaid : Prop := yearsLiveRow.holds Tryz.pinned (OpenSpec.ofChange yearsLiveSpec)

/-- ITS FALSE NEIGHBOUR: 'it returns false'. Refute it at one input. -/
def yearsLiveWrong : ChangeSpec := { name := "yearsLive", fn := fun _ => fun
  | [d1, d2] => { results := [.lit (.bool false)], args := [d1, d2] }
  | _ => none }
def YearsLiveWrongFalsely : Prop := yearsLiveRow.holds Tryz.pinned (OpenSpec.ofChange yearsLiveWrong)

/-- 'exchequerlaw28.TreeEnds': WHATEVER THE INPUT: true; the input reads as it did. -/
def treeEndsSpec : ChangeSpec := { name := "treeEnds", fn := fun _ => fun
  | [d1, d2] => { results := [.lit (.bool true)], args := [d1, d2] }
  | _ => none }
def treeEndsRow : OpenClaim := { program := "ythfbpdipilajoaagreatdoor", sum := "6217cc39678d66b43b20761e81f76b606fde9b71433b62a3e784299a6da9d873", func := "exchequer/exchequerlaw28.TreeEnds", spec := "treeEnds", inPlace := ["internal/bytealg.Compare"], unfollowed := true, recurses := true, named := ["exchequer/crc.nibbles"], apart := false, laid := [("exchequer/crc.nibbles", laid_exchequer_crc_nibbles)] }
def TreeEndsSaid : Prop := treeEndsRow.holds Tryz.pinned (OpenSpec.ofChange treeEndsSpec)

/-- ITS FALSE NEIGHBOUR: 'it returns false'. Refute it at one input. -/
def treeEndsWrong : ChangeSpec := { name := "treeEnds", fn := fun _ => fun
  | [d1, d2] => { results := [.lit (.bool false)], args := [d1, d2] }
  | _ => none }
def TreeEndsWrongFalsely : Prop := treeEndsRow.holds Tryz.pinned (OpenSpec.ofChange treeEndsWrong)

/-- 'exchequerlaw28.TreeTells': WHATEVER THE INPUT: true; the input reads as it did. -/
def treeTellsSpec : ChangeSpec := { name := "treeTells", fn := fun _ => fun
  | [d1, d2, d3, d4] => { results := [.lit (.bool true)], args := [d1, d2, d3, d4] }
  | _ => none }
def treeTellsRow : OpenClaim := { program := "ythfbpdipilajoaagreatdoor", sum := "6217cc39678d66b43b20761e81f76b606fde9b71433b62a3e784299a6da9d873", func := "exchequer/exchequerlaw28.TreeTells", spec := "treeTells", inPlace := ["internal/bytealg.Compare"], unfollowed := true, recurses := true, named := ["exchequer/crc.nibbles"], apart := false, laid := [("exchequer/crc.nibbles", laid_exchequer_crc_nibbles)] }
def TreeTellsSaid : Prop := treeTellsRow.holds Tryz.pinned (OpenSpec.ofChange treeTellsSpec)

/-- ITS FALSE NEIGHBOUR: 'it returns false'. Refute it at one input. -/
def treeTellsWrong : ChangeSpec := { name := "treeTells", fn := fun _ => fun
  | [d1, d2, d3, d4] => { results := [.lit (.bool false)], args := [d1, d2, d3, d4] }
  | _ => none }
def TreeTellsWrongFalsely : Prop := treeTellsRow.holds Tryz.pinned (OpenSpec.ofChange treeTellsWrong)

/-- 'exchequerlaw23.LinesCheck': WHATEVER THE INPUT: true; the input reads as it did. -/
def linesCheckSpec : ChangeSpec := { name := "linesCheck", fn := fun _ => fun
  | [d1, d2] => { results := [.lit (.bool true)], args := [d1, d2] }
  | _ => none }
def linesCheckRow : OpenClaim := { program := "ythfbpdipilajoaagreatdoor", sum := "6217cc39678d66b43b20761e81f76b606fde9b71433b62a3e784299a6da9d873", func := "exchequer/exchequerlaw23.LinesCheck", spec := "linesCheck", inPlace := ["internal/bytealg.Compare"], unfollowed := true, recurses := true, named := ["exchequer/crc.nibbles"], apart := false, laid := [("exchequer/crc.nibbles", laid_exchequer_crc_nibbles)] }
def LinesCheckSaid : Prop := linesCheckRow.holds Tryz.pinned (OpenSpec.ofChange linesCheckSpec)

/-- ITS FALSE NEIGHBOUR: 'it returns false'. Refute it at one input. -/
def linesCheckWrong : ChangeSpec := { name := "linesCheck", fn := fun _ => fun
  | [d1, d2] => { results := [.lit (.bool false)], args := [d1, d2] }
  | _ => none }
def LinesCheckWrongFalsely : Prop := linesCheckRow.holds Tryz.pinned (OpenSpec.ofChange linesCheckWrong)

/-- 'exchequerlaw23.LinesOrder': WHATEVER THE INPUT: true; the input reads as it did. -/
def linesOrderSpec : ChangeSpec := { name := "linesOrder", fn := fun _ => fun
  | [d1, d2] => { results := [.lit (.bool true)], args := [d1, d2] }
  | _ => none }
def linesOrderRow : OpenClaim := { program := "ythfbpdipilajoaagreatdoor", sum := "6217cc39678d66b43b20761e81f76b606fde9b71433b62a3e784299a6da9d873", func := "exchequer/exchequerlaw23.LinesOrder", spec := "linesOrder", inPlace := ["internal/bytealg.Compare"], unfollowed := true, recurses := true, named := ["exchequer/crc.nibbles"], apart := false, laid := [("exchequer/crc.nibbles", laid_exchequer_crc_nibbles)] }
def LinesOrderSaid : Prop := linesOrderRow.holds Tryz.pinned (OpenSpec.ofChange linesOrderSpec)

/-- ITS FALSE NEIGHBOUR: 'it returns false'. Refute it at one input. -/
def linesOrderWrong : ChangeSpec := { name := "linesOrder", fn := fun _ => fun
  | [d1, d2] => { results := [.lit (.bool false)], args := [d1, d2] }
  | _ => none }
def LinesOrderWrongFalsely : Prop := linesOrderRow.holds Tryz.pinned (OpenSpec.ofChange linesOrderWrong)

/- THE SECOND FORM. 'bulk': how many values and letters a reading holds, each counted each time it is reached (what is shared counts as often as it is met; a slice's spare places count too). A statement '..UptoSaid' is the law's where the arguments, and the package variables that the reading takes, are together of bulk at most 1048576: NARROWER than '..Said'. Prove '..Said' where nothing that the law and all that it calls make is longer than what came in: it says more and counts as full. Else prove '..UptoSaid'. A law counts once. -/
mutual
def uptoBulk {H : Type} : DataW H → Nat
  | .lit (.string bytes) => bytes.length + 1
  | .lit _ => 1
  | .nil => 1
  | .ptr d => uptoBulk d + 1
  | .slice elems spare => uptoBulkAll elems + uptoBulkAll spare + 1
  | .agg parts => uptoBulkAll parts + 1
  | .iface _ d => uptoBulk d + 1
  | .map entries => uptoBulkEntries entries + 1
  | .held _ => 1
def uptoBulkAll {H : Type} : List (DataW H) → Nat
  | [] => 0
  | d :: r => uptoBulk d + uptoBulkAll r
def uptoBulkEntries {H : Type} : List (Lit × DataW H) → Nat
  | [] => 0
  | x :: r => uptoBulkEntry x + uptoBulkEntries r
def uptoBulkEntry {H : Type} : Lit × DataW H → Nat
  | (.string bytes, d) => bytes.length + uptoBulk d + 1
  | (_, d) => uptoBulk d + 1
 end
def uptoSmall : (H : Type) → List (DataW H) → Bool := fun _ ds => decide (uptoBulkAll ds ≤ 1048576)
def OpenSpec.upto (s : _root_.Go.ChangeSpec) : _root_.Go.OpenSpec := { _root_.Go.OpenSpec.ofChange s with cond := some uptoSmall }

/-- 'exchequerlaw31.PreOpen', WHERE WHAT IT READS IS OF BULK AT MOST 1048576: true; the input reads as it did. -/
def preOpenUptoRow : OpenClaim := { program := "ythfbpdipilajoaagreatdoor", sum := "6217cc39678d66b43b20761e81f76b606fde9b71433b62a3e784299a6da9d873", func := "exchequer/exchequerlaw31.PreOpen", spec := "preOpen", unfollowed := true, recurses := true, named := ["exchequer/crc.nibbles"], apart := false, laid := [("exchequer/crc.nibbles", laid_exchequer_crc_nibbles)], narrowed := true }
def PreOpenUptoSaid : Prop := preOpenUptoRow.holds Tryz.pinned (OpenSpec.upto preOpenSpec)

/-- 'exchequerlaw20.SeqnGives', WHERE WHAT IT READS IS OF BULK AT MOST 1048576: true; the input reads as it did. -/
def seqnGivesUptoRow : OpenClaim := { program := "ythfbpdipilajoaagreatdoor", sum := "6217cc39678d66b43b20761e81f76b606fde9b71433b62a3e784299a6da9d873", func := "exchequer/exchequerlaw20.SeqnGives", spec := "seqnGives", inPlace := ["internal/bytealg.Compare"], unfollowed := true, recurses := true, named := ["exchequer/crc.nibbles"], apart := false, laid := [("exchequer/crc.nibbles", laid_exchequer_crc_nibbles)], narrowed := true }
def SeqnGivesUptoSaid : Prop := seqnGivesUptoRow.holds Tryz.pinned (OpenSpec.upto seqnGivesSpec)

/-- 'exchequerlaw22.YearsStay', WHERE WHAT IT READS IS OF BULK AT MOST 1048576: true; the input reads as it did. -/
def yearsStayUptoRow : OpenClaim := { program := "ythfbpdipilajoaagreatdoor", sum := "6217cc39678d66b43b20761e81f76b606fde9b71433b62a3e784299a6da9d873", func := "exchequer/exchequerlaw22.YearsStay", spec := "yearsStay", inPlace := ["internal/bytealg.Compare"], unfollowed := true, recurses := true, named := ["exchequer/crc.nibbles"], apart := false, laid := [("exchequer/crc.nibbles", laid_exchequer_crc_nibbles)], narrowed := true }
def YearsStayUptoSaid : Prop := yearsStayUptoRow.holds Tryz.pinned (OpenSpec.upto yearsStaySpec)

/-- 'exchequerlaw21.ChartOnce', WHERE WHAT IT READS IS OF BULK AT MOST 1048576: true; the input reads as it did. -/
def chartOnceUptoRow : OpenClaim := { program := "ythfbpdipilajoaagreatdoor", sum := "6217cc39678d66b43b20761e81f76b606fde9b71433b62a3e784299a6da9d873", func := "exchequer/exchequerlaw21.ChartOnce", spec := "chartOnce", inPlace := ["internal/bytealg.Compare"], unfollowed := true, recurses := true, named := ["exchequer/crc.nibbles"], apart := false, laid := [("exchequer/crc.nibbles", laid_exchequer_crc_nibbles)], narrowed := true }
def ChartOnceUptoSaid : Prop := chartOnceUptoRow.holds Tryz.pinned (OpenSpec.upto chartOnceSpec)

/-- 'exchequerlaw25.BalBack', WHERE WHAT IT READS IS OF BULK AT MOST 1048576: true; the input reads as it did. -/
def balBackUptoRow : OpenClaim := { program := "ythfbpdipilajoaagreatdoor", sum := "6217cc39678d66b43b20761e81f76b606fde9b71433b62a3e784299a6da9d873", func := "exchequer/exchequerlaw25.BalBack", spec := "balBack", inPlace := ["internal/bytealg.Compare"], unfollowed := true, recurses := true, named := ["exchequer/crc.nibbles"], apart := false, laid := [("exchequer/crc.nibbles", laid_exchequer_crc_nibbles)], narrowed := true }
def BalBackUptoSaid : Prop := balBackUptoRow.holds Tryz.pinned (OpenSpec.upto balBackSpec)

/-- 'exchequerlaw22.YearsLive', WHERE WHAT IT READS IS OF BULK AT MOST 1048576: true; the input reads as it did. -/
def yearsLiveUptoRow : OpenClaim := { program := "ythfbpdipilajoaagreatdoor", sum := "6217cc39678d66b43b20761e81f76b606fde9b71433b62a3e784299a6da9d873", func := "exchequer/exchequerlaw22.YearsLive", spec := "yearsLive", inPlace := ["internal/bytealg.Compare"], unfollowed := true, recurses := true, named := ["exchequer/crc.nibbles"], apart := false, laid := [("exchequer/crc.nibbles", laid_exchequer_crc_nibbles)], narrowed := true }
def YearsLiveUptoSaid : Prop := yearsLiveUptoRow.holds Tryz.pinned (OpenSpec.upto yearsLiveSpec)

/-- 'exchequerlaw28.TreeEnds', WHERE WHAT IT READS IS OF BULK AT MOST 1048576: true; the input reads as it did. -/
def treeEndsUptoRow : OpenClaim := { program := "ythfbpdipilajoaagreatdoor", sum := "6217cc39678d66b43b20761e81f76b606fde9b71433b62a3e784299a6da9d873", func := "exchequer/exchequerlaw28.TreeEnds", spec := "treeEnds", inPlace := ["internal/bytealg.Compare"], unfollowed := true, recurses := true, named := ["exchequer/crc.nibbles"], apart := false, laid := [("exchequer/crc.nibbles", laid_exchequer_crc_nibbles)], narrowed := true }
def TreeEndsUptoSaid : Prop := treeEndsUptoRow.holds Tryz.pinned (OpenSpec.upto treeEndsSpec)

/-- 'exchequerlaw28.TreeTells', WHERE WHAT IT READS IS OF BULK AT MOST 1048576: true; the input reads as it did. -/
def treeTellsUptoRow : OpenClaim := { program := "ythfbpdipilajoaagreatdoor", sum := "6217cc39678d66b43b20761e81f76b606fde9b71433b62a3e784299a6da9d873", func := "exchequer/exchequerlaw28.TreeTells", spec := "treeTells", inPlace := ["internal/bytealg.Compare"], unfollowed := true, recurses := true, named := ["exchequer/crc.nibbles"], apart := false, laid := [("exchequer/crc.nibbles", laid_exchequer_crc_nibbles)], narrowed := true }
def TreeTellsUptoSaid : Prop := treeTellsUptoRow.holds Tryz.pinned (OpenSpec.upto treeTellsSpec)

/-- 'exchequerlaw23.LinesCheck', WHERE WHAT IT READS IS OF BULK AT MOST 1048576: true; the input reads as it did. -/
def linesCheckUptoRow : OpenClaim := { program := "ythfbpdipilajoaagreatdoor", sum := "6217cc39678d66b43b20761e81f76b606fde9b71433b62a3e784299a6da9d873", func := "exchequer/exchequerlaw23.LinesCheck", spec := "linesCheck", inPlace := ["internal/bytealg.Compare"], unfollowed := true, recurses := true, named := ["exchequer/crc.nibbles"], apart := false, laid := [("exchequer/crc.nibbles", laid_exchequer_crc_nibbles)], narrowed := true }
def LinesCheckUptoSaid : Prop := linesCheckUptoRow.holds Tryz.pinned (OpenSpec.upto linesCheckSpec)

/-- 'exchequerlaw23.LinesOrder', WHERE WHAT IT READS IS OF BULK AT MOST 1048576: true; the input reads as it did. -/
def linesOrderUptoRow : OpenClaim := { program := "ythfbpdipilajoaagreatdoor", sum := "6217cc39678d66b43b20761e81f76b606fde9b71433b62a3e784299a6da9d873", func := "exchequer/exchequerlaw23.LinesOrder", spec := "linesOrder", inPlace := ["internal/bytealg.Compare"], unfollowed := true, recurses := true, named := ["exchequer/crc.nibbles"], apart := false, laid := [("exchequer/crc.nibbles", laid_exchequer_crc_nibbles)], narrowed := true }
def LinesOrderUptoSaid : Prop := linesOrderUptoRow.holds Tryz.pinned (OpenSpec.upto linesOrderSpec)

end Rows
end Go.Proofs.YthfbpdipilajoaaGreatDoor
