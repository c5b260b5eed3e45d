/-
  NARROWER THAN 'FOR EVERY INPUT', by the rows' own cells (each row's printed sentence says how): ChartOnce: laid · LinesCheck: laid · LinesOrder: laid · DocsBack: laid · DocsLive: laid · EncNoMore: laid · CtrlHolds: laid · PreNew: laid · EncNew: laid.
  DERIVED. THE GIVEN ROWS OF THIS SEAT. 9 by the template 'for every input the law returns true; each argument reads behind the call as it read before'; 0 by the template 'total and deterministic' (their statements: YtiggbkhkmecagaaGreatDoorTotals.lean).
  GIVEN WITH THE SEED: the statements are not yours to turn. If you find one false, say at which input.
  Laid BY PROGRAM, IN A SANDBOX (cutbox-rows.mjs): the forced cells as the released guide's own fill.sh prints them over the translation 4a749f724ab6a1e3… (all of the seat's roots in one cut). By AI agents, Wed Nov 11 2026. No macro, syntax, notation, axiom, sorry.
-/
import Derived.Test.YtiggbkhkmecagaaGreatDoorChecked
import GoSem.Claim
import GoSem.ClaimJoined
import GoSem.ClaimMapViews
import Derived.JoinedTies
import Derived.KernelRfl
namespace Go.Proofs.YtiggbkhkmecagaaGreatDoor
/- THE CELL 'sum', in the pinned program and in every row, IS THE sha256 OF THE DUMP (.gsa) THAT YtiggbkhkmecagaaGreatDoorProg.lean LOADS. Nothing in Lean hashes anything: it is a label: what it is worth is what the hold of that sum in a sandbox is worth. -/
noncomputable def Tryz.pinned : Pinned := { name := "ytiggbkhkmecagaagreatdoor", sum := "4a749f724ab6a1e324e659031428b1fe8dc1a573ec54da48064f27848ebaffdb", checked := Tryz.checked }
namespace Rows
def none {H : Type} : Left H := { results := [], args := [] }

/- WHAT THE LISTED PACKAGE-LEVEL VARIABLES READ AS WHEN THE CALL BEGINS. Each datum BY PROGRAM (the guide's laid-datum.mjs) off the statement by which the dump's own 'gosem.cut.vars' lays the variable. In a bare row this is a premise. The card (YtiggbkhkmecagaaGreatDoorCards.lean) ties it to the program's text. -/
def laid_exchequer_crc_nibbles {H : Type} : DataW H := .agg [.lit (.int .u32 0), .lit (.int .u32 498536548), .lit (.int .u32 997073096), .lit (.int .u32 651767980), .lit (.int .u32 1994146192), .lit (.int .u32 1802195444), .lit (.int .u32 1303535960), .lit (.int .u32 1342533948), .lit (.int .u32 3988292384), .lit (.int .u32 4027552580), .lit (.int .u32 3604390888), .lit (.int .u32 3412177804), .lit (.int .u32 2607071920), .lit (.int .u32 2262029012), .lit (.int .u32 2685067896), .lit (.int .u32 3183342108)]

/-- 'exchequerlaw21.ChartOnce': WHATEVER THE INPUT: true; the input reads as it did. -/
def chartOnceSpec : ChangeSpec := { name := "chartOnce", fn := fun _ => fun
  | [d] => { results := [.lit (.bool true)], args := [d] }
  | _ => none }
def chartOnceRow : OpenClaim := { program := "ytiggbkhkmecagaagreatdoor", sum := "4a749f724ab6a1e324e659031428b1fe8dc1a573ec54da48064f27848ebaffdb", func := "exchequer/exchequerlaw21.ChartOnce", spec := "chartOnce", inPlace := ["internal/bytealg.Compare"], unfollowed := true, recurses := true, named := ["exchequer/crc.nibbles"], apart := false, laid := [("exchequer/crc.nibbles", laid_exchequer_crc_nibbles)] }
def ChartOnceSaid : Prop := chartOnceRow.holds Tryz.pinned (OpenSpec.ofChange chartOnceSpec)

/-- ITS FALSE NEIGHBOUR: 'it returns false'. Refute it at one input. -/
def chartOnceWrong : ChangeSpec := { name := "chartOnce", fn := fun _ => fun
  | [d] => { results := [.lit (.bool false)], args := [d] }
  | _ => none }
def ChartOnceWrongFalsely : Prop := chartOnceRow.holds Tryz.pinned (OpenSpec.ofChange chartOnceWrong)

/-- 'exchequerlaw23.LinesCheck': WHATEVER THE INPUT: true; the input reads as it did. -/
def linesCheckSpec : ChangeSpec := { name := "linesCheck", fn := fun _ => fun
  | [d1, d2] => { results := [.lit (.bool true)], args := [d1, d2] }
  | _ => none }
def linesCheckRow : OpenClaim := { program := "ytiggbkhkmecagaagreatdoor", sum := "4a749f724ab6a1e324e659031428b1fe8dc1a573ec54da48064f27848ebaffdb", func := "exchequer/exchequerlaw23.LinesCheck", spec := "linesCheck", inPlace := ["internal/bytealg.Compare"], unfollowed := true, recurses := true, named := ["exchequer/crc.nibbles"], apart := false, laid := [("exchequer/crc.nibbles", laid_exchequer_crc_nibbles)] }
def LinesCheckSaid : Prop := linesCheckRow.holds Tryz.pinned (OpenSpec.ofChange linesCheckSpec)

/-- ITS FALSE NEIGHBOUR: 'it returns false'. Refute it at one input. -/
def linesCheckWrong : ChangeSpec := { name := "linesCheck", fn := fun _ => fun
  | [d1, d2] => { results := [.lit (.bool false)], args := [d1, d2] }
  | _ => none }
def LinesCheckWrongFalsely : Prop := linesCheckRow.holds Tryz.pinned (OpenSpec.ofChange linesCheckWrong)

/-- 'exchequerlaw23.LinesOrder': WHATEVER THE INPUT: true; the input reads as it did. -/
def linesOrderSpec : ChangeSpec := { name := "linesOrder", fn := fun _ => fun
  | [d1, d2] => { results := [.lit (.bool true)], args := [d1, d2] }
  | _ => none }
def linesOrderRow : OpenClaim := { program := "ytiggbkhkmecagaagreatdoor", sum := "4a749f724ab6a1e324e659031428b1fe8dc1a573ec54da48064f27848ebaffdb", func := "exchequer/exchequerlaw23.LinesOrder", spec := "linesOrder", inPlace := ["internal/bytealg.Compare"], unfollowed := true, recurses := true, named := ["exchequer/crc.nibbles"], apart := false, laid := [("exchequer/crc.nibbles", laid_exchequer_crc_nibbles)] }
def LinesOrderSaid : Prop := linesOrderRow.holds Tryz.pinned (OpenSpec.ofChange linesOrderSpec)

/-- ITS FALSE NEIGHBOUR: 'it returns false'. Refute it at one input. -/
def linesOrderWrong : ChangeSpec := { name := "linesOrder", fn := fun _ => fun
  | [d1, d2] => { results := [.lit (.bool false)], args := [d1, d2] }
  | _ => none }
def LinesOrderWrongFalsely : Prop := linesOrderRow.holds Tryz.pinned (OpenSpec.ofChange linesOrderWrong)

/-- 'exchequerlaw30.DocsBack': WHATEVER THE INPUT: true; the input reads as it did. -/
def docsBackSpec : ChangeSpec := { name := "docsBack", fn := fun _ => fun
  | [d1, d2] => { results := [.lit (.bool true)], args := [d1, d2] }
  | _ => none }
def docsBackRow : OpenClaim := { program := "ytiggbkhkmecagaagreatdoor", sum := "4a749f724ab6a1e324e659031428b1fe8dc1a573ec54da48064f27848ebaffdb", func := "exchequer/exchequerlaw30.DocsBack", spec := "docsBack", inPlace := ["internal/bytealg.Compare"], unfollowed := true, recurses := true, named := ["exchequer/crc.nibbles"], apart := false, laid := [("exchequer/crc.nibbles", laid_exchequer_crc_nibbles)] }
def DocsBackSaid : Prop := docsBackRow.holds Tryz.pinned (OpenSpec.ofChange docsBackSpec)

/-- ITS FALSE NEIGHBOUR: 'it returns false'. Refute it at one input. -/
def docsBackWrong : ChangeSpec := { name := "docsBack", fn := fun _ => fun
  | [d1, d2] => { results := [.lit (.bool false)], args := [d1, d2] }
  | _ => none }
def DocsBackWrongFalsely : Prop := docsBackRow.holds Tryz.pinned (OpenSpec.ofChange docsBackWrong)

/-- 'exchequerlaw30.DocsLive': WHATEVER THE INPUT: true; the input reads as it did. -/
def docsLiveSpec : ChangeSpec := { name := "docsLive", fn := fun _ => fun
  | [d1, d2] => { results := [.lit (.bool true)], args := [d1, d2] }
  | _ => none }
def docsLiveRow : OpenClaim := { program := "ytiggbkhkmecagaagreatdoor", sum := "4a749f724ab6a1e324e659031428b1fe8dc1a573ec54da48064f27848ebaffdb", func := "exchequer/exchequerlaw30.DocsLive", spec := "docsLive", inPlace := ["internal/bytealg.Compare"], unfollowed := true, recurses := true, named := ["exchequer/crc.nibbles"], apart := false, laid := [("exchequer/crc.nibbles", laid_exchequer_crc_nibbles)] }
def DocsLiveSaid : Prop := docsLiveRow.holds Tryz.pinned (OpenSpec.ofChange docsLiveSpec)

/-- ITS FALSE NEIGHBOUR: 'it returns false'. Refute it at one input. -/
def docsLiveWrong : ChangeSpec := { name := "docsLive", fn := fun _ => fun
  | [d1, d2] => { results := [.lit (.bool false)], args := [d1, d2] }
  | _ => none }
def DocsLiveWrongFalsely : Prop := docsLiveRow.holds Tryz.pinned (OpenSpec.ofChange docsLiveWrong)

/-- 'exchequerlaw32.EncNoMore': WHATEVER THE INPUT: true; the input reads as it did. -/
def encNoMoreSpec : ChangeSpec := { name := "encNoMore", fn := fun _ => fun
  | [d1, d2, d3, d4] => { results := [.lit (.bool true)], args := [d1, d2, d3, d4] }
  | _ => none }
def encNoMoreRow : OpenClaim := { program := "ytiggbkhkmecagaagreatdoor", sum := "4a749f724ab6a1e324e659031428b1fe8dc1a573ec54da48064f27848ebaffdb", func := "exchequer/exchequerlaw32.EncNoMore", spec := "encNoMore", inPlace := ["internal/bytealg.Compare"], unfollowed := true, recurses := true, named := ["exchequer/crc.nibbles"], apart := false, laid := [("exchequer/crc.nibbles", laid_exchequer_crc_nibbles)] }
def EncNoMoreSaid : Prop := encNoMoreRow.holds Tryz.pinned (OpenSpec.ofChange encNoMoreSpec)

/-- ITS FALSE NEIGHBOUR: 'it returns false'. Refute it at one input. -/
def encNoMoreWrong : ChangeSpec := { name := "encNoMore", fn := fun _ => fun
  | [d1, d2, d3, d4] => { results := [.lit (.bool false)], args := [d1, d2, d3, d4] }
  | _ => none }
def EncNoMoreWrongFalsely : Prop := encNoMoreRow.holds Tryz.pinned (OpenSpec.ofChange encNoMoreWrong)

/-- 'exchequerlaw29.CtrlHolds': WHATEVER THE INPUT: true; the input reads as it did. -/
def ctrlHoldsSpec : ChangeSpec := { name := "ctrlHolds", fn := fun _ => fun
  | [d1, d2] => { results := [.lit (.bool true)], args := [d1, d2] }
  | _ => none }
def ctrlHoldsRow : OpenClaim := { program := "ytiggbkhkmecagaagreatdoor", sum := "4a749f724ab6a1e324e659031428b1fe8dc1a573ec54da48064f27848ebaffdb", func := "exchequer/exchequerlaw29.CtrlHolds", spec := "ctrlHolds", inPlace := ["internal/bytealg.Compare"], unfollowed := true, recurses := true, named := ["exchequer/crc.nibbles"], apart := false, laid := [("exchequer/crc.nibbles", laid_exchequer_crc_nibbles)] }
def CtrlHoldsSaid : Prop := ctrlHoldsRow.holds Tryz.pinned (OpenSpec.ofChange ctrlHoldsSpec)

/-- ITS FALSE NEIGHBOUR: 'it returns false'. Refute it at one input. -/
def ctrlHoldsWrong : ChangeSpec := { name := "ctrlHolds", fn := fun _ => fun
  | [d1, d2] => { results := [.lit (.bool false)], args := [d1, d2] }
  | _ => none }
def CtrlHoldsWrongFalsely : Prop := ctrlHoldsRow.holds Tryz.pinned (OpenSpec.ofChange ctrlHoldsWrong)

/-- 'exchequerlaw31.PreNew': WHATEVER THE INPUT: true; the input reads as it did. -/
def preNewSpec : ChangeSpec := { name := "preNew", fn := fun _ => fun
  | [d1, d2] => { results := [.lit (.bool true)], args := [d1, d2] }
  | _ => none }
def preNewRow : OpenClaim := { program := "ytiggbkhkmecagaagreatdoor", sum := "4a749f724ab6a1e324e659031428b1fe8dc1a573ec54da48064f27848ebaffdb", func := "exchequer/exchequerlaw31.PreNew", spec := "preNew", inPlace := ["internal/bytealg.Compare"], unfollowed := true, recurses := true, named := ["exchequer/crc.nibbles"], apart := false, laid := [("exchequer/crc.nibbles", laid_exchequer_crc_nibbles)] }
def PreNewSaid : Prop := preNewRow.holds Tryz.pinned (OpenSpec.ofChange preNewSpec)

/-- ITS FALSE NEIGHBOUR: 'it returns false'. Refute it at one input. -/
def preNewWrong : ChangeSpec := { name := "preNew", fn := fun _ => fun
  | [d1, d2] => { results := [.lit (.bool false)], args := [d1, d2] }
  | _ => none }
def PreNewWrongFalsely : Prop := preNewRow.holds Tryz.pinned (OpenSpec.ofChange preNewWrong)

/-- 'exchequerlaw32.EncNew': WHATEVER THE INPUT: true; the input reads as it did. -/
def encNewSpec : ChangeSpec := { name := "encNew", fn := fun _ => fun
  | [d1, d2, d3] => { results := [.lit (.bool true)], args := [d1, d2, d3] }
  | _ => none }
def encNewRow : OpenClaim := { program := "ytiggbkhkmecagaagreatdoor", sum := "4a749f724ab6a1e324e659031428b1fe8dc1a573ec54da48064f27848ebaffdb", func := "exchequer/exchequerlaw32.EncNew", spec := "encNew", inPlace := ["internal/bytealg.Compare"], unfollowed := true, recurses := true, named := ["exchequer/crc.nibbles"], apart := false, laid := [("exchequer/crc.nibbles", laid_exchequer_crc_nibbles)] }
def EncNewSaid : Prop := encNewRow.holds Tryz.pinned (OpenSpec.ofChange encNewSpec)

/-- ITS FALSE NEIGHBOUR: 'it returns false'. Refute it at one input. -/
def encNewWrong : ChangeSpec := { name := "encNew", fn := fun _ => fun
  | [d1, d2, d3] => { results := [.lit (.bool false)], args := [d1, d2, d3] }
  | _ => none }
def EncNewWrongFalsely : Prop := encNewRow.holds Tryz.pinned (OpenSpec.ofChange encNewWrong)

/- THE SECOND FORM. 'bulk': how many values and letters a reading holds, each counted each time it is reached (what is shared counts as often as it is met; a slice's spare places count too). A statement '..UptoSaid' is the law's where the arguments, and the package variables that the reading takes, are together of bulk at most 1048576: NARROWER than '..Said'. Prove '..Said' where nothing that the law and all that it calls make is longer than what came in: it says more and counts as full. Else prove '..UptoSaid'. A law counts once. -/
mutual
def uptoBulk {H : Type} : DataW H → Nat
  | .lit (.string bytes) => bytes.length + 1
  | .lit _ => 1
  | .nil => 1
  | .ptr d => uptoBulk d + 1
  | .slice elems spare => uptoBulkAll elems + uptoBulkAll spare + 1
  | .agg parts => uptoBulkAll parts + 1
  | .iface _ d => uptoBulk d + 1
  | .map entries => uptoBulkEntries entries + 1
  | .held _ => 1
def uptoBulkAll {H : Type} : List (DataW H) → Nat
  | [] => 0
  | d :: r => uptoBulk d + uptoBulkAll r
def uptoBulkEntries {H : Type} : List (Lit × DataW H) → Nat
  | [] => 0
  | x :: r => uptoBulkEntry x + uptoBulkEntries r
def uptoBulkEntry {H : Type} : Lit × DataW H → Nat
  | (.string bytes, d) => bytes.length + uptoBulk d + 1
  | (_, d) => uptoBulk d + 1
 end
def uptoSmall : (H : Type) → List (DataW H) → Bool := fun _ ds => decide (uptoBulkAll ds ≤ 1048576)
def OpenSpec.upto (s : _root_.Go.ChangeSpec) : _root_.Go.OpenSpec := { _root_.Go.OpenSpec.ofChange s with cond := some uptoSmall }

/-- 'exchequerlaw21.ChartOnce', WHERE WHAT IT READS IS OF BULK AT MOST 1048576: true; the input reads as it did. -/
def chartOnceUptoRow : OpenClaim := { program := "ytiggbkhkmecagaagreatdoor", sum := "4a749f724ab6a1e324e659031428b1fe8dc1a573ec54da48064f27848ebaffdb", func := "exchequer/exchequerlaw21.ChartOnce", spec := "chartOnce", inPlace := ["internal/bytealg.Compare"], unfollowed := true, recurses := true, named := ["exchequer/crc.nibbles"], apart := false, laid := [("exchequer/crc.nibbles", laid_exchequer_crc_nibbles)], narrowed := true }
def ChartOnceUptoSaid : Prop := chartOnceUptoRow.holds Tryz.pinned (OpenSpec.upto chartOnceSpec)

/-- 'exchequerlaw23.LinesCheck', WHERE WHAT IT READS IS OF BULK AT MOST 1048576: true; the input reads as it did. -/
def linesCheckUptoRow : OpenClaim := { program := "ytiggbkhkmecagaagreatdoor", sum := "4a749f724ab6a1e324e659031428b1fe8dc1a573ec54da48064f27848ebaffdb", func := "exchequer/exchequerlaw23.LinesCheck", spec := "linesCheck", inPlace := ["internal/bytealg.Compare"], unfollowed := true, recurses := true, named := ["exchequer/crc.nibbles"], apart := false, laid := [("exchequer/crc.nibbles", laid_exchequer_crc_nibbles)], narrowed := true }
def LinesCheckUptoSaid : Prop := linesCheckUptoRow.holds Tryz.pinned (OpenSpec.upto linesCheckSpec)

/-- 'exchequerlaw23.LinesOrder', WHERE WHAT IT READS IS OF BULK AT MOST 1048576: true; the input reads as it did. -/
def linesOrderUptoRow : OpenClaim := { program := "ytiggbkhkmecagaagreatdoor", sum := "4a749f724ab6a1e324e659031428b1fe8dc1a573ec54da48064f27848ebaffdb", func := "exchequer/exchequerlaw23.LinesOrder", spec := "linesOrder", inPlace := ["internal/bytealg.Compare"], unfollowed := true, recurses := true, named := ["exchequer/crc.nibbles"], apart := false, laid := [("exchequer/crc.nibbles", laid_exchequer_crc_nibbles)], narrowed := true }
def LinesOrderUptoSaid : Prop := linesOrderUptoRow.holds Tryz.pinned (OpenSpec.upto linesOrderSpec)

/-- 'exchequerlaw30.DocsBack', WHERE WHAT IT READS IS OF BULK AT MOST 1048576: true; the input reads as it did. -/
def docsBackUptoRow : OpenClaim := { program := "ytiggbkhkmecagaagreatdoor", sum := "4a749f724ab6a1e324e659031428b1fe8dc1a573ec54da48064f27848ebaffdb", func := "exchequer/exchequerlaw30.DocsBack", spec := "docsBack", inPlace := ["internal/bytealg.Compare"], unfollowed := true, recurses := true, named := ["exchequer/crc.nibbles"], apart := false, laid := [("exchequer/crc.nibbles", laid_exchequer_crc_nibbles)], narrowed := true }
def DocsBackUptoSaid : Prop := docsBackUptoRow.holds Tryz.pinned (OpenSpec.upto docsBackSpec)

/-- 'exchequerlaw30.DocsLive', WHERE WHAT IT READS IS OF BULK AT MOST 1048576: true; the input reads as it did. -/
def docsLiveUptoRow : OpenClaim := { program := "ytiggbkhkmecagaagreatdoor", sum := "4a749f724ab6a1e324e659031428b1fe8dc1a573ec54da48064f27848ebaffdb", func := "exchequer/exchequerlaw30.DocsLive", spec := "docsLive", inPlace := ["internal/bytealg.Compare"], unfollowed := true, recurses := true, named := ["exchequer/crc.nibbles"], apart := false, laid := [("exchequer/crc.nibbles", laid_exchequer_crc_nibbles)], narrowed := true }
def DocsLiveUptoSaid : Prop := docsLiveUptoRow.holds Tryz.pinned (OpenSpec.upto docsLiveSpec)

/-- 'exchequerlaw32.EncNoMore', WHERE WHAT IT READS IS OF BULK AT MOST 1048576: true; the input reads as it did. -/
def encNoMoreUptoRow : OpenClaim := { program := "ytiggbkhkmecagaagreatdoor", sum := "4a749f724ab6a1e324e659031428b1fe8dc1a573ec54da48064f27848ebaffdb", func := "exchequer/exchequerlaw32.EncNoMore", spec := "encNoMore", inPlace := ["internal/bytealg.Compare"], unfollowed := true, recurses := true, named := ["exchequer/crc.nibbles"], apart := false, laid := [("exchequer/crc.nibbles", laid_exchequer_crc_nibbles)], narrowed := true }
def EncNoMoreUptoSaid : Prop := encNoMoreUptoRow.holds Tryz.pinned (OpenSpec.upto encNoMoreSpec)

/-- 'exchequerlaw29.CtrlHolds', WHERE WHAT IT READS IS OF BULK AT MOST 1048576: true; the input reads as it did. -/
def ctrlHoldsUptoRow : OpenClaim := { program := "ytiggbkhkmecagaagreatdoor", sum := "4a749f724ab6a1e324e659031428b1fe8dc1a573ec54da48064f27848ebaffdb", func := "exchequer/exchequerlaw29.CtrlHolds", spec := "ctrlHolds", inPlace := ["internal/bytealg.Compare"], unfollowed := true, recurses := true, named := ["exchequer/crc.nibbles"], apart := false, laid := [("exchequer/crc.nibbles", laid_exchequer_crc_nibbles)], narrowed := true }
def CtrlHoldsUptoSaid : Prop := ctrlHoldsUptoRow.holds Tryz.pinned (OpenSpec.upto ctrlHoldsSpec)

/-- 'exchequerlaw31.PreNew', WHERE WHAT IT READS IS OF BULK AT MOST 1048576: true; the input reads as it did. -/
def preNewUptoRow : OpenClaim := { program := "ytiggbkhkmecagaagreatdoor", sum := "4a749f724ab6a1e324e659031428b1fe8dc1a573ec54da48064f27848ebaffdb", func := "exchequer/exchequerlaw31.PreNew", spec := "preNew", inPlace := ["internal/bytealg.Compare"], unfollowed := true, recurses := true, named := ["exchequer/crc.nibbles"], apart := false, laid := [("exchequer/crc.nibbles", laid_exchequer_crc_nibbles)], narrowed := true }
def PreNewUptoSaid : Prop := preNewUptoRow.holds Tryz.pinned (OpenSpec.upto preNewSpec)

/-- 'exchequerlaw32.EncNew', WHERE WHAT IT READS IS OF BULK AT MOST 1048576: true; the input reads as it did. -/
def encNewUptoRow : OpenClaim := { program := "ytiggbkhkmecagaagreatdoor", sum := "4a749f724ab6a1e324e659031428b1fe8dc1a573ec54da48064f27848ebaffdb", func := "exchequer/exchequerlaw32.EncNew", spec := "encNew", inPlace := ["internal/bytealg.Compare"], unfollowed := true, recurses := true, named := ["exchequer/crc.nibbles"], apart := false, laid := [("exchequer/crc.nibbles", laid_exchequer_crc_nibbles)], narrowed := true }
def EncNewUptoSaid : Prop := encNewUptoRow.holds Tryz.pinned (OpenSpec.upto encNewSpec)

end Rows
end Go.Proofs.YtiggbkhkmecagaaGreatDoor
