/-
  NARROWER THAN 'FOR EVERY INPUT', by the rows' own cells (each row's printed sentence says how): TapeTells: laid · TapeBack: laid · TapeTorn: laid · CsvParses: laid.
  DERIVED. THE GIVEN ROWS OF THIS SEAT. 4 by the template 'for every input the law returns true; each argument reads behind the call as it read before'; 0 by the template 'total and deterministic' (their statements: YtfejonkjfeedcaaDoorTotals.lean).
  GIVEN WITH THE SEED: the statements are not yours to turn. If you find one false, say at which input.
  Laid BY PROGRAM, IN A SANDBOX (cutbox-rows.mjs): the forced cells as the released guide's own fill.sh prints them over the translation f0e952bbe2f6c1da… (all of the seat's roots in one cut). By AI agents, Wed Nov 11 2026. No macro, syntax, notation, axiom, sorry.
-/
import Derived.Test.YtfejonkjfeedcaaDoorChecked
import GoSem.PinnedTables
import GoSem.Claim
import GoSem.ClaimJoined
import GoSem.ClaimMapViews
import Derived.JoinedTies
import Derived.KernelRfl
namespace Go.Proofs.YtfejonkjfeedcaaDoor
/- THE CELL 'sum', in the pinned program and in every row, IS THE sha256 OF THE DUMP (.gsa) THAT YtfejonkjfeedcaaDoorProg.lean LOADS. Nothing in Lean hashes anything: it is a label: what it is worth is what the hold of that sum in a sandbox is worth. -/
noncomputable def Tryd.pinned : Pinned := { name := "ytfejonkjfeedcaadoor", sum := "f0e952bbe2f6c1da223b07f51b6242efea74c8b284839ec7162731b3f5e29bee", checked := Tryd.checked }
namespace Rows
def none {H : Type} : Left H := { results := [], args := [] }

/- WHAT THE LISTED PACKAGE-LEVEL VARIABLES READ AS WHEN THE CALL BEGINS. Each datum BY PROGRAM (the guide's laid-datum.mjs) off the statement by which the dump's own 'gosem.cut.vars' lays the variable. In a bare row this is a premise. The card (YtfejonkjfeedcaaDoorCards.lean) ties it to the program's text. -/
def laid_exchequer_crc_nibbles {H : Type} : DataW H := .agg [.lit (.int .u32 0), .lit (.int .u32 498536548), .lit (.int .u32 997073096), .lit (.int .u32 651767980), .lit (.int .u32 1994146192), .lit (.int .u32 1802195444), .lit (.int .u32 1303535960), .lit (.int .u32 1342533948), .lit (.int .u32 3988292384), .lit (.int .u32 4027552580), .lit (.int .u32 3604390888), .lit (.int .u32 3412177804), .lit (.int .u32 2607071920), .lit (.int .u32 2262029012), .lit (.int .u32 2685067896), .lit (.int .u32 3183342108)]
def laid_unicode_utf8_acceptRanges {H : Type} : DataW H := .agg [.agg [.lit (.int .u8 128), .lit (.int .u8 191)], .agg [.lit (.int .u8 160), .lit (.int .u8 191)], .agg [.lit (.int .u8 128), .lit (.int .u8 159)], .agg [.lit (.int .u8 144), .lit (.int .u8 191)], .agg [.lit (.int .u8 128), .lit (.int .u8 143)], .agg [.lit (.int .u8 0), .lit (.int .u8 0)], .agg [.lit (.int .u8 0), .lit (.int .u8 0)], .agg [.lit (.int .u8 0), .lit (.int .u8 0)], .agg [.lit (.int .u8 0), .lit (.int .u8 0)], .agg [.lit (.int .u8 0), .lit (.int .u8 0)], .agg [.lit (.int .u8 0), .lit (.int .u8 0)], .agg [.lit (.int .u8 0), .lit (.int .u8 0)], .agg [.lit (.int .u8 0), .lit (.int .u8 0)], .agg [.lit (.int .u8 0), .lit (.int .u8 0)], .agg [.lit (.int .u8 0), .lit (.int .u8 0)], .agg [.lit (.int .u8 0), .lit (.int .u8 0)]]
/-- One of Go's own tables, pinned by name: the form's constant. -/
def laid_unicode_utf8_first : DataW Unit := Go.Pinned.utf8First

/-- 'exchequerlaw51.TapeTells': WHATEVER THE INPUT: true; the input reads as it did. -/
def tapeTellsSpec : ChangeSpec := { name := "tapeTells", fn := fun _ => fun
  | [d1, d2] => { results := [.lit (.bool true)], args := [d1, d2] }
  | _ => none }
def tapeTellsRow : OpenClaim := { program := "ytfejonkjfeedcaadoor", sum := "f0e952bbe2f6c1da223b07f51b6242efea74c8b284839ec7162731b3f5e29bee", func := "exchequer/exchequerlaw51.TapeTells", spec := "tapeTells", unfollowed := true, recurses := true, named := ["exchequer/crc.nibbles"], apart := false, laid := [("exchequer/crc.nibbles", laid_exchequer_crc_nibbles)] }
def TapeTellsSaid : Prop := tapeTellsRow.holds Tryd.pinned (OpenSpec.ofChange tapeTellsSpec)

/-- ITS FALSE NEIGHBOUR: 'it returns false'. Refute it at one input. -/
def tapeTellsWrong : ChangeSpec := { name := "tapeTells", fn := fun _ => fun
  | [d1, d2] => { results := [.lit (.bool false)], args := [d1, d2] }
  | _ => none }
def TapeTellsWrongFalsely : Prop := tapeTellsRow.holds Tryd.pinned (OpenSpec.ofChange tapeTellsWrong)

/-- 'exchequerlaw51.TapeBack': WHATEVER THE INPUT: true; the input reads as it did. -/
def tapeBackSpec : ChangeSpec := { name := "tapeBack", fn := fun _ => fun
  | [d1, d2] => { results := [.lit (.bool true)], args := [d1, d2] }
  | _ => none }
def tapeBackRow : OpenClaim := { program := "ytfejonkjfeedcaadoor", sum := "f0e952bbe2f6c1da223b07f51b6242efea74c8b284839ec7162731b3f5e29bee", func := "exchequer/exchequerlaw51.TapeBack", spec := "tapeBack", unfollowed := true, recurses := true, named := ["exchequer/crc.nibbles"], apart := false, laid := [("exchequer/crc.nibbles", laid_exchequer_crc_nibbles)] }
def TapeBackSaid : Prop := tapeBackRow.holds Tryd.pinned (OpenSpec.ofChange tapeBackSpec)

/-- ITS FALSE NEIGHBOUR: 'it returns false'. Refute it at one input. -/
def tapeBackWrong : ChangeSpec := { name := "tapeBack", fn := fun _ => fun
  | [d1, d2] => { results := [.lit (.bool false)], args := [d1, d2] }
  | _ => none }
def TapeBackWrongFalsely : Prop := tapeBackRow.holds Tryd.pinned (OpenSpec.ofChange tapeBackWrong)

/-- 'exchequerlaw51.TapeTorn': WHATEVER THE INPUT: true; the input reads as it did. -/
def tapeTornSpec : ChangeSpec := { name := "tapeTorn", fn := fun _ => fun
  | [d1, d2] => { results := [.lit (.bool true)], args := [d1, d2] }
  | _ => none }
def tapeTornRow : OpenClaim := { program := "ytfejonkjfeedcaadoor", sum := "f0e952bbe2f6c1da223b07f51b6242efea74c8b284839ec7162731b3f5e29bee", func := "exchequer/exchequerlaw51.TapeTorn", spec := "tapeTorn", unfollowed := true, recurses := true, named := ["exchequer/crc.nibbles"], apart := false, laid := [("exchequer/crc.nibbles", laid_exchequer_crc_nibbles)] }
def TapeTornSaid : Prop := tapeTornRow.holds Tryd.pinned (OpenSpec.ofChange tapeTornSpec)

/-- ITS FALSE NEIGHBOUR: 'it returns false'. Refute it at one input. -/
def tapeTornWrong : ChangeSpec := { name := "tapeTorn", fn := fun _ => fun
  | [d1, d2] => { results := [.lit (.bool false)], args := [d1, d2] }
  | _ => none }
def TapeTornWrongFalsely : Prop := tapeTornRow.holds Tryd.pinned (OpenSpec.ofChange tapeTornWrong)

/-- 'exchequerlaw49.CsvParses': WHATEVER THE INPUT: true; the input reads as it did. -/
def csvParsesSpec : ChangeSpec := { name := "csvParses", fn := fun _ => fun
  | [d] => { results := [.lit (.bool true)], args := [d] }
  | _ => none }
def csvParsesRow : OpenClaim := { program := "ytfejonkjfeedcaadoor", sum := "f0e952bbe2f6c1da223b07f51b6242efea74c8b284839ec7162731b3f5e29bee", func := "exchequer/exchequerlaw49.CsvParses", spec := "csvParses", inPlace := ["internal/bytealg.IndexByteString", "internal/bytealg.IndexString", "internal/bytealg.CountString", "internal/abi.NoEscape", "internal/bytealg.MakeNoZero"], recurses := true, named := ["internal/bytealg.MaxLen", "unicode/utf8.first", "unicode/utf8.acceptRanges"], apart := false, laid := [("unicode/utf8.acceptRanges", laid_unicode_utf8_acceptRanges), ("unicode/utf8.first", laid_unicode_utf8_first)] }
def CsvParsesSaid : Prop := csvParsesRow.holds Tryd.pinned (OpenSpec.ofChange csvParsesSpec)

/-- ITS FALSE NEIGHBOUR: 'it returns false'. Refute it at one input. -/
def csvParsesWrong : ChangeSpec := { name := "csvParses", fn := fun _ => fun
  | [d] => { results := [.lit (.bool false)], args := [d] }
  | _ => none }
def CsvParsesWrongFalsely : Prop := csvParsesRow.holds Tryd.pinned (OpenSpec.ofChange csvParsesWrong)

/- THE SECOND FORM. 'bulk': how many values and letters a reading holds, each counted each time it is reached (what is shared counts as often as it is met; a slice's spare places count too). A statement '..UptoSaid' is the law's where the arguments, and the package variables that the reading takes, are together of bulk at most 1048576: NARROWER than '..Said'. Prove '..Said' where nothing that the law and all that it calls make is longer than what came in: it says more and counts as full. Else prove '..UptoSaid'. A law counts once. -/
mutual
def uptoBulk {H : Type} : DataW H → Nat
  | .lit (.string bytes) => bytes.length + 1
  | .lit _ => 1
  | .nil => 1
  | .ptr d => uptoBulk d + 1
  | .slice elems spare => uptoBulkAll elems + uptoBulkAll spare + 1
  | .agg parts => uptoBulkAll parts + 1
  | .iface _ d => uptoBulk d + 1
  | .map entries => uptoBulkEntries entries + 1
  | .held _ => 1
def uptoBulkAll {H : Type} : List (DataW H) → Nat
  | [] => 0
  | d :: r => uptoBulk d + uptoBulkAll r
def uptoBulkEntries {H : Type} : List (Lit × DataW H) → Nat
  | [] => 0
  | x :: r => uptoBulkEntry x + uptoBulkEntries r
def uptoBulkEntry {H : Type} : Lit × DataW H → Nat
  | (.string bytes, d) => bytes.length + uptoBulk d + 1
  | (_, d) => uptoBulk d + 1
 end
def uptoSmall : (H : Type) → List (DataW H) → Bool := fun _ ds => decide (uptoBulkAll ds ≤ 1048576)
def OpenSpec.upto (s : _root_.Go.ChangeSpec) : _root_.Go.OpenSpec := { _root_.Go.OpenSpec.ofChange s with cond := some uptoSmall }

/-- 'exchequerlaw51.TapeTells', WHERE WHAT IT READS IS OF BULK AT MOST 1048576: true; the input reads as it did. -/
def tapeTellsUptoRow : OpenClaim := { program := "ytfejonkjfeedcaadoor", sum := "f0e952bbe2f6c1da223b07f51b6242efea74c8b284839ec7162731b3f5e29bee", func := "exchequer/exchequerlaw51.TapeTells", spec := "tapeTells", unfollowed := true, recurses := true, named := ["exchequer/crc.nibbles"], apart := false, laid := [("exchequer/crc.nibbles", laid_exchequer_crc_nibbles)], narrowed := true }
def TapeTellsUptoSaid : Prop := tapeTellsUptoRow.holds Tryd.pinned (OpenSpec.upto tapeTellsSpec)

/-- 'exchequerlaw51.TapeBack', WHERE WHAT IT READS IS OF BULK AT MOST 1048576: true; the input reads as it did. -/
def tapeBackUptoRow : OpenClaim := { program := "ytfejonkjfeedcaadoor", sum := "f0e952bbe2f6c1da223b07f51b6242efea74c8b284839ec7162731b3f5e29bee", func := "exchequer/exchequerlaw51.TapeBack", spec := "tapeBack", unfollowed := true, recurses := true, named := ["exchequer/crc.nibbles"], apart := false, laid := [("exchequer/crc.nibbles", laid_exchequer_crc_nibbles)], narrowed := true }
def TapeBackUptoSaid : Prop := tapeBackUptoRow.holds Tryd.pinned (OpenSpec.upto tapeBackSpec)

/-- 'exchequerlaw51.TapeTorn', WHERE WHAT IT READS IS OF BULK AT MOST 1048576: true; the input reads as it did. -/
def tapeTornUptoRow : OpenClaim := { program := "ytfejonkjfeedcaadoor", sum := "f0e952bbe2f6c1da223b07f51b6242efea74c8b284839ec7162731b3f5e29bee", func := "exchequer/exchequerlaw51.TapeTorn", spec := "tapeTorn", unfollowed := true, recurses := true, named := ["exchequer/crc.nibbles"], apart := false, laid := [("exchequer/crc.nibbles", laid_exchequer_crc_nibbles)], narrowed := true }
def TapeTornUptoSaid : Prop := tapeTornUptoRow.holds Tryd.pinned (OpenSpec.upto tapeTornSpec)

/-- 'exchequerlaw49.CsvParses', WHERE WHAT IT READS IS OF BULK AT MOST 1048576: true; the input reads as it did. -/
def csvParsesUptoRow : OpenClaim := { program := "ytfejonkjfeedcaadoor", sum := "f0e952bbe2f6c1da223b07f51b6242efea74c8b284839ec7162731b3f5e29bee", func := "exchequer/exchequerlaw49.CsvParses", spec := "csvParses", inPlace := ["internal/bytealg.IndexByteString", "internal/bytealg.IndexString", "internal/bytealg.CountString", "internal/abi.NoEscape", "internal/bytealg.MakeNoZero"], recurses := true, named := ["internal/bytealg.MaxLen", "unicode/utf8.first", "unicode/utf8.acceptRanges"], apart := false, laid := [("unicode/utf8.acceptRanges", laid_unicode_utf8_acceptRanges), ("unicode/utf8.first", laid_unicode_utf8_first)], narrowed := true }
def CsvParsesUptoSaid : Prop := csvParsesUptoRow.holds Tryd.pinned (OpenSpec.upto csvParsesSpec)

end Rows
end Go.Proofs.YtfejonkjfeedcaaDoor
