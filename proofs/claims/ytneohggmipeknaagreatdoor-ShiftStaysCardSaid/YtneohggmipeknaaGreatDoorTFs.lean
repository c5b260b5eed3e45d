/- What the types of this program say. -/
import Derived.Test.YtneohggmipeknaaGreatDoorV2
import Derived.Test.YtneohggmipeknaaGreatDoorProg
import Derived.KernelRfl
open And renaming intro → zZ
set_option linter.unusedSimpArgs false
set_option linter.unusedVariables false
namespace Go.Proofs.Lx
open Go.Vm
theorem as22 : arrSz Tryz.prog 22 = none := by kernel_rfl
theorem as36 : arrSz Tryz.prog 36 = none := by kernel_rfl
theorem as43 : arrSz Tryz.prog 43 = none := by kernel_rfl
theorem as60 : arrSz Tryz.prog 60 = none := by kernel_rfl
theorem as86 : arrSz Tryz.prog 86 = none := by kernel_rfl
theorem as120 : arrSz Tryz.prog 120 = none := by kernel_rfl
theorem as123 : arrSz Tryz.prog 123 = none := by kernel_rfl
theorem as134 : arrSz Tryz.prog 134 = none := by kernel_rfl
theorem bt123 : bytesT Tryz.prog 123 = true := by kernel_rfl
theorem cv3_5 (n : Int) (s' s : Slots) (K : AV → Slots → Prop) : awpCvX Tryz.prog 3 5 (.v (.int .i64 n), s') (.v (.int .i64 n)) (.v (.int .i64 n)) s K = K (.v (.int .u8 (IntKind.u8.wrap n))) s := cvi (d := .int .i64) (by kernel_rfl) (by kernel_rfl) n s' s K
theorem cv3_243 (n : Int) (s' s : Slots) (K : AV → Slots → Prop) : awpCvX Tryz.prog 3 243 (.v (.int .i64 n), s') (.v (.int .i64 n)) (.v (.int .i64 n)) s K = K (.v (.int .u64 (IntKind.u64.wrap n))) s := cvi (d := .int .i64) (by kernel_rfl) (by kernel_rfl) n s' s K
theorem cv5_3 (n : Int) (s' s : Slots) (K : AV → Slots → Prop) : awpCvX Tryz.prog 5 3 (.v (.int .u8 n), s') (.v (.int .u8 n)) (.v (.int .u8 n)) s K = K (.v (.int .i64 (IntKind.i64.wrap n))) s := cvi (d := .int .u8) (by kernel_rfl) (by kernel_rfl) n s' s K
theorem cv5_243 (n : Int) (s' s : Slots) (K : AV → Slots → Prop) : awpCvX Tryz.prog 5 243 (.v (.int .u8 n), s') (.v (.int .u8 n)) (.v (.int .u8 n)) s K = K (.v (.int .u64 (IntKind.u64.wrap n))) s := cvi (d := .int .u8) (by kernel_rfl) (by kernel_rfl) n s' s K
theorem cv243_3 (n : Int) (s' s : Slots) (K : AV → Slots → Prop) : awpCvX Tryz.prog 243 3 (.v (.int .u64 n), s') (.v (.int .u64 n)) (.v (.int .u64 n)) s K = K (.v (.int .i64 (IntKind.i64.wrap n))) s := cvi (d := .int .u64) (by kernel_rfl) (by kernel_rfl) n s' s K
theorem cv243_5 (n : Int) (s' s : Slots) (K : AV → Slots → Prop) : awpCvX Tryz.prog 243 5 (.v (.int .u64 n), s') (.v (.int .u64 n)) (.v (.int .u64 n)) s K = K (.v (.int .u8 (IntKind.u8.wrap n))) s := cvi (d := .int .u64) (by kernel_rfl) (by kernel_rfl) n s' s K
theorem ei36 : elemIn Tryz.prog 36 = some (29, 12, 96) := by kernel_rfl
theorem ei43 : elemIn Tryz.prog 43 = some (48, 4, 32) := by kernel_rfl
theorem ei60 : elemIn Tryz.prog 60 = some (132, 2, 48) := by kernel_rfl
theorem ei61 : elemIn Tryz.prog 61 = some (123, 1, 24) := by kernel_rfl
theorem ei120 : elemIn Tryz.prog 120 = some (3, 1, 8) := by kernel_rfl
theorem ei123 : elemIn Tryz.prog 123 = some (5, 1, 1) := by kernel_rfl
theorem ei134 : elemIn Tryz.prog 134 = some (9, 1, 16) := by kernel_rfl
theorem es22 : elemSz Tryz.prog 22 = some (31, 17) := by kernel_rfl
theorem es36 : elemSz Tryz.prog 36 = some (29, 12) := by kernel_rfl
theorem es43 : elemSz Tryz.prog 43 = some (48, 4) := by kernel_rfl
theorem es60 : elemSz Tryz.prog 60 = some (132, 2) := by kernel_rfl
theorem es61 : elemSz Tryz.prog 61 = some (123, 1) := by kernel_rfl
theorem es86 : elemSz Tryz.prog 86 = some (85, 4) := by kernel_rfl
theorem es120 : elemSz Tryz.prog 120 = some (3, 1) := by kernel_rfl
theorem es123 : elemSz Tryz.prog 123 = some (5, 1) := by kernel_rfl
theorem es134 : elemSz Tryz.prog 134 = some (9, 1) := by kernel_rfl
theorem fl29 : fieldsAt Tryz.prog 29 = some [(0, 1), (1, 1), (2, 1), (3, 1), (4, 1), (5, 1), (6, 1), (7, 1), (8, 1), (9, 1), (10, 1), (11, 1)] := by kernel_rfl
theorem fl42 : fieldsAt Tryz.prog 42 = some [(0, 1), (1, 1), (2, 1), (3, 1), (4, 1)] := by kernel_rfl
theorem fl48 : fieldsAt Tryz.prog 48 = some [(0, 1), (1, 1), (2, 1), (3, 1)] := by kernel_rfl
theorem fl69 : fieldsAt Tryz.prog 69 = some [(0, 1), (1, 1), (2, 1), (3, 1)] := by kernel_rfl
theorem fl74 : fieldsAt Tryz.prog 74 = some [(0, 1)] := by kernel_rfl
theorem fl76 : fieldsAt Tryz.prog 76 = some [(0, 1), (1, 1), (2, 1)] := by kernel_rfl
theorem fl85 : fieldsAt Tryz.prog 85 = some [(0, 1), (1, 1), (2, 1), (3, 1)] := by kernel_rfl
theorem fl91 : fieldsAt Tryz.prog 91 = some [(0, 1), (1, 1)] := by kernel_rfl
theorem fl96 : fieldsAt Tryz.prog 96 = some [(0, 1)] := by kernel_rfl
theorem fl102 : fieldsAt Tryz.prog 102 = some [(0, 1), (1, 1), (2, 1), (3, 1)] := by kernel_rfl
theorem fl107 : fieldsAt Tryz.prog 107 = some [(0, 1), (1, 1)] := by kernel_rfl
theorem fl111 : fieldsAt Tryz.prog 111 = some [(0, 1), (1, 1)] := by kernel_rfl
theorem fl132 : fieldsAt Tryz.prog 132 = some [(0, 1), (1, 1)] := by kernel_rfl
theorem fl137 : fieldsAt Tryz.prog 137 = some [(0, 1), (1, 1)] := by kernel_rfl
theorem fl158 : fieldsAt Tryz.prog 158 = some [(0, 1), (1, 1)] := by kernel_rfl
theorem fl198 : fieldsAt Tryz.prog 198 = some [(0, 1), (1, 1), (2, 1)] := by kernel_rfl
theorem fl217 : fieldsAt Tryz.prog 217 = some [(0, 1), (1, 1), (2, 1)] := by kernel_rfl
theorem fl274 : fieldsAt Tryz.prog 274 = some [(0, 1), (1, 1)] := by kernel_rfl
theorem fo29_0 : fieldOf Tryz.prog 29 0 = some (0, 3) := by kernel_rfl
theorem fo29_1 : fieldOf Tryz.prog 29 1 = some (1, 3) := by kernel_rfl
theorem fo29_2 : fieldOf Tryz.prog 29 2 = some (2, 3) := by kernel_rfl
theorem fo29_3 : fieldOf Tryz.prog 29 3 = some (3, 3) := by kernel_rfl
theorem fo29_4 : fieldOf Tryz.prog 29 4 = some (4, 3) := by kernel_rfl
theorem fo29_5 : fieldOf Tryz.prog 29 5 = some (5, 4) := by kernel_rfl
theorem fo29_6 : fieldOf Tryz.prog 29 6 = some (6, 3) := by kernel_rfl
theorem fo29_7 : fieldOf Tryz.prog 29 7 = some (7, 3) := by kernel_rfl
theorem fo29_8 : fieldOf Tryz.prog 29 8 = some (8, 3) := by kernel_rfl
theorem fo29_9 : fieldOf Tryz.prog 29 9 = some (9, 3) := by kernel_rfl
theorem fo29_10 : fieldOf Tryz.prog 29 10 = some (10, 3) := by kernel_rfl
theorem fo29_11 : fieldOf Tryz.prog 29 11 = some (11, 3) := by kernel_rfl
theorem fo31_0 : fieldOf Tryz.prog 31 0 = some (0, 3) := by kernel_rfl
theorem fo31_1 : fieldOf Tryz.prog 31 1 = some (1, 3) := by kernel_rfl
theorem fo31_2 : fieldOf Tryz.prog 31 2 = some (2, 3) := by kernel_rfl
theorem fo31_3 : fieldOf Tryz.prog 31 3 = some (3, 3) := by kernel_rfl
theorem fo31_4 : fieldOf Tryz.prog 31 4 = some (4, 3) := by kernel_rfl
theorem fo31_5 : fieldOf Tryz.prog 31 5 = some (5, 29) := by kernel_rfl
theorem fo42_0 : fieldOf Tryz.prog 42 0 = some (0, 3) := by kernel_rfl
theorem fo42_1 : fieldOf Tryz.prog 42 1 = some (1, 3) := by kernel_rfl
theorem fo42_2 : fieldOf Tryz.prog 42 2 = some (2, 3) := by kernel_rfl
theorem fo42_3 : fieldOf Tryz.prog 42 3 = some (3, 3) := by kernel_rfl
theorem fo42_4 : fieldOf Tryz.prog 42 4 = some (4, 3) := by kernel_rfl
theorem fo48_0 : fieldOf Tryz.prog 48 0 = some (0, 3) := by kernel_rfl
theorem fo48_1 : fieldOf Tryz.prog 48 1 = some (1, 3) := by kernel_rfl
theorem fo48_2 : fieldOf Tryz.prog 48 2 = some (2, 3) := by kernel_rfl
theorem fo48_3 : fieldOf Tryz.prog 48 3 = some (3, 3) := by kernel_rfl
theorem fo69_0 : fieldOf Tryz.prog 69 0 = some (0, 65) := by kernel_rfl
theorem fo69_1 : fieldOf Tryz.prog 69 1 = some (1, 66) := by kernel_rfl
theorem fo69_2 : fieldOf Tryz.prog 69 2 = some (2, 67) := by kernel_rfl
theorem fo69_3 : fieldOf Tryz.prog 69 3 = some (3, 32) := by kernel_rfl
theorem fo74_0 : fieldOf Tryz.prog 74 0 = some (0, 60) := by kernel_rfl
theorem fo76_0 : fieldOf Tryz.prog 76 0 = some (0, 72) := by kernel_rfl
theorem fo76_1 : fieldOf Tryz.prog 76 1 = some (1, 72) := by kernel_rfl
theorem fo76_2 : fieldOf Tryz.prog 76 2 = some (2, 72) := by kernel_rfl
theorem fo85_2 : fieldOf Tryz.prog 85 2 = some (2, 3) := by kernel_rfl
theorem fo85_3 : fieldOf Tryz.prog 85 3 = some (3, 3) := by kernel_rfl
theorem fo91_0 : fieldOf Tryz.prog 91 0 = some (0, 24) := by kernel_rfl
theorem fo91_1 : fieldOf Tryz.prog 91 1 = some (1, 3) := by kernel_rfl
theorem fo96_0 : fieldOf Tryz.prog 96 0 = some (0, 24) := by kernel_rfl
theorem fo107_0 : fieldOf Tryz.prog 107 0 = some (0, 24) := by kernel_rfl
theorem fo107_1 : fieldOf Tryz.prog 107 1 = some (1, 3) := by kernel_rfl
theorem fo111_0 : fieldOf Tryz.prog 111 0 = some (0, 24) := by kernel_rfl
theorem fo111_1 : fieldOf Tryz.prog 111 1 = some (1, 3) := by kernel_rfl
theorem fo132_0 : fieldOf Tryz.prog 132 0 = some (0, 123) := by kernel_rfl
theorem fo132_1 : fieldOf Tryz.prog 132 1 = some (1, 123) := by kernel_rfl
theorem fo137_0 : fieldOf Tryz.prog 137 0 = some (0, 123) := by kernel_rfl
theorem fo137_1 : fieldOf Tryz.prog 137 1 = some (1, 4) := by kernel_rfl
theorem fo158_0 : fieldOf Tryz.prog 158 0 = some (0, 24) := by kernel_rfl
theorem fo158_1 : fieldOf Tryz.prog 158 1 = some (1, 3) := by kernel_rfl
theorem fo198_0 : fieldOf Tryz.prog 198 0 = some (0, 5) := by kernel_rfl
theorem fo198_1 : fieldOf Tryz.prog 198 1 = some (1, 3) := by kernel_rfl
theorem fo198_2 : fieldOf Tryz.prog 198 2 = some (2, 3) := by kernel_rfl
theorem fo217_0 : fieldOf Tryz.prog 217 0 = some (0, 3) := by kernel_rfl
theorem fo217_1 : fieldOf Tryz.prog 217 1 = some (1, 3) := by kernel_rfl
theorem fo217_2 : fieldOf Tryz.prog 217 2 = some (2, 3) := by kernel_rfl
theorem fo274_0 : fieldOf Tryz.prog 274 0 = some (0, 24) := by kernel_rfl
theorem fo274_1 : fieldOf Tryz.prog 274 1 = some (1, 123) := by kernel_rfl
theorem mt65 : MapT Tryz.prog 65 9 137 (.string) := ⟨by kernel_rfl, by kernel_rfl⟩
theorem mt67 : MapT Tryz.prog 67 9 123 (.string) := ⟨by kernel_rfl, by kernel_rfl⟩
theorem of3 (c : AV) (cs : List AV) (K : AV → Prop) : ofCells Tryz.prog 3 (c :: cs) K = K (val c) := ofCells_one (by kernel_rfl) c cs K
theorem of4 (c : AV) (cs : List AV) (K : AV → Prop) : ofCells Tryz.prog 4 (c :: cs) K = K (val c) := ofCells_one (by kernel_rfl) c cs K
theorem of5 (c : AV) (cs : List AV) (K : AV → Prop) : ofCells Tryz.prog 5 (c :: cs) K = K (val c) := ofCells_one (by kernel_rfl) c cs K
theorem of9 (c : AV) (cs : List AV) (K : AV → Prop) : ofCells Tryz.prog 9 (c :: cs) K = K (val c) := ofCells_one (by kernel_rfl) c cs K
theorem of24 (c : AV) (cs : List AV) (K : AV → Prop) : ofCells Tryz.prog 24 (c :: cs) K = K (val c) := ofCells_one (by kernel_rfl) c cs K
theorem of29 (cs : List AV) (K : AV → Prop) : ofCells Tryz.prog 29 cs K = (12 ≤ cs.length ∧ K (.agg (cs.take 12))) := ofCells_agg (by kernel_rfl) cs K
theorem of31 (cs : List AV) (K : AV → Prop) : ofCells Tryz.prog 31 cs K = (17 ≤ cs.length ∧ K (.agg (cs.take 17))) := ofCells_agg (by kernel_rfl) cs K
theorem of32 (c : AV) (cs : List AV) (K : AV → Prop) : ofCells Tryz.prog 32 (c :: cs) K = K (val c) := ofCells_one (by kernel_rfl) c cs K
theorem of42 (cs : List AV) (K : AV → Prop) : ofCells Tryz.prog 42 cs K = (5 ≤ cs.length ∧ K (.agg (cs.take 5))) := ofCells_agg (by kernel_rfl) cs K
theorem of48 (cs : List AV) (K : AV → Prop) : ofCells Tryz.prog 48 cs K = (4 ≤ cs.length ∧ K (.agg (cs.take 4))) := ofCells_agg (by kernel_rfl) cs K
theorem of60 (c : AV) (cs : List AV) (K : AV → Prop) : ofCells Tryz.prog 60 (c :: cs) K = K (val c) := ofCells_one (by kernel_rfl) c cs K
theorem of65 (c : AV) (cs : List AV) (K : AV → Prop) : ofCells Tryz.prog 65 (c :: cs) K = K (val c) := ofCells_one (by kernel_rfl) c cs K
theorem of66 (c : AV) (cs : List AV) (K : AV → Prop) : ofCells Tryz.prog 66 (c :: cs) K = K (val c) := ofCells_one (by kernel_rfl) c cs K
theorem of67 (c : AV) (cs : List AV) (K : AV → Prop) : ofCells Tryz.prog 67 (c :: cs) K = K (val c) := ofCells_one (by kernel_rfl) c cs K
theorem of72 (c : AV) (cs : List AV) (K : AV → Prop) : ofCells Tryz.prog 72 (c :: cs) K = K (val c) := ofCells_one (by kernel_rfl) c cs K
theorem of85 (cs : List AV) (K : AV → Prop) : ofCells Tryz.prog 85 cs K = (4 ≤ cs.length ∧ K (.agg (cs.take 4))) := ofCells_agg (by kernel_rfl) cs K
theorem of91 (cs : List AV) (K : AV → Prop) : ofCells Tryz.prog 91 cs K = (2 ≤ cs.length ∧ K (.agg (cs.take 2))) := ofCells_agg (by kernel_rfl) cs K
theorem of96 (cs : List AV) (K : AV → Prop) : ofCells Tryz.prog 96 cs K = (1 ≤ cs.length ∧ K (.agg (cs.take 1))) := ofCells_agg (by kernel_rfl) cs K
theorem of107 (cs : List AV) (K : AV → Prop) : ofCells Tryz.prog 107 cs K = (2 ≤ cs.length ∧ K (.agg (cs.take 2))) := ofCells_agg (by kernel_rfl) cs K
theorem of111 (cs : List AV) (K : AV → Prop) : ofCells Tryz.prog 111 cs K = (2 ≤ cs.length ∧ K (.agg (cs.take 2))) := ofCells_agg (by kernel_rfl) cs K
theorem of123 (c : AV) (cs : List AV) (K : AV → Prop) : ofCells Tryz.prog 123 (c :: cs) K = K (val c) := ofCells_one (by kernel_rfl) c cs K
theorem of132 (cs : List AV) (K : AV → Prop) : ofCells Tryz.prog 132 cs K = (2 ≤ cs.length ∧ K (.agg (cs.take 2))) := ofCells_agg (by kernel_rfl) cs K
theorem of137 (cs : List AV) (K : AV → Prop) : ofCells Tryz.prog 137 cs K = (2 ≤ cs.length ∧ K (.agg (cs.take 2))) := ofCells_agg (by kernel_rfl) cs K
theorem of198 (cs : List AV) (K : AV → Prop) : ofCells Tryz.prog 198 cs K = (3 ≤ cs.length ∧ K (.agg (cs.take 3))) := ofCells_agg (by kernel_rfl) cs K
theorem of217 (cs : List AV) (K : AV → Prop) : ofCells Tryz.prog 217 cs K = (3 ≤ cs.length ∧ K (.agg (cs.take 3))) := ofCells_agg (by kernel_rfl) cs K
theorem of274 (cs : List AV) (K : AV → Prop) : ofCells Tryz.prog 274 cs K = (2 ≤ cs.length ∧ K (.agg (cs.take 2))) := ofCells_agg (by kernel_rfl) cs K
theorem sz3 : szT Tryz.prog 3 = some 1 := by kernel_rfl
theorem sz29 : szT Tryz.prog 29 = some 12 := by kernel_rfl
theorem sz31 : szT Tryz.prog 31 = some 17 := by kernel_rfl
theorem sz32 : szT Tryz.prog 32 = some 1 := by kernel_rfl
theorem sz42 : szT Tryz.prog 42 = some 5 := by kernel_rfl
theorem sz48 : szT Tryz.prog 48 = some 4 := by kernel_rfl
theorem sz60 : szT Tryz.prog 60 = some 1 := by kernel_rfl
theorem sz72 : szT Tryz.prog 72 = some 1 := by kernel_rfl
theorem sz85 : szT Tryz.prog 85 = some 4 := by kernel_rfl
theorem sz91 : szT Tryz.prog 91 = some 2 := by kernel_rfl
theorem sz96 : szT Tryz.prog 96 = some 1 := by kernel_rfl
theorem sz107 : szT Tryz.prog 107 = some 2 := by kernel_rfl
theorem sz111 : szT Tryz.prog 111 = some 2 := by kernel_rfl
theorem sz132 : szT Tryz.prog 132 = some 2 := by kernel_rfl
theorem sz137 : szT Tryz.prog 137 = some 2 := by kernel_rfl
theorem sz198 : szT Tryz.prog 198 = some 3 := by kernel_rfl
theorem sz217 : szT Tryz.prog 217 = some 3 := by kernel_rfl
theorem sz274 : szT Tryz.prog 274 = some 2 := by kernel_rfl
theorem un3 : Tryz.prog.underlying 3 = some (.int .i64) := by kernel_rfl
theorem un102 : Tryz.prog.underlying 102 = some (.array 4 3) := by kernel_rfl
theorem z3 : (Tryz.prog.info? 3).bind (·.zero) = some (.int .i64 0) := by kernel_rfl
theorem z5 : (Tryz.prog.info? 5).bind (·.zero) = some (.int .u8 0) := by kernel_rfl
theorem z29 : (Tryz.prog.info? 29).bind (·.zero) = some (.agg #[.int .i64 0, .int .i64 0, .int .i64 0, .int .i64 0, .int .i64 0, .bool false, .int .i64 0, .int .i64 0, .int .i64 0, .int .i64 0, .int .i64 0, .int .i64 0]) := by kernel_rfl
theorem z31 : (Tryz.prog.info? 31).bind (·.zero) = some (.agg #[.int .i64 0, .int .i64 0, .int .i64 0, .int .i64 0, .int .i64 0, .int .i64 0, .int .i64 0, .int .i64 0, .int .i64 0, .int .i64 0, .bool false, .int .i64 0, .int .i64 0, .int .i64 0, .int .i64 0, .int .i64 0, .int .i64 0]) := by kernel_rfl
theorem z42 : (Tryz.prog.info? 42).bind (·.zero) = some (.agg #[.int .i64 0, .int .i64 0, .int .i64 0, .int .i64 0, .int .i64 0]) := by kernel_rfl
theorem z48 : (Tryz.prog.info? 48).bind (·.zero) = some (.agg #[.int .i64 0, .int .i64 0, .int .i64 0, .int .i64 0]) := by kernel_rfl
theorem z69 : (Tryz.prog.info? 69).bind (·.zero) = some (.agg #[.map none, .pointer none, .map none, .int .i64 0]) := by kernel_rfl
theorem z74 : (Tryz.prog.info? 74).bind (·.zero) = some (.agg #[.slice none 0 0]) := by kernel_rfl
theorem z76 : (Tryz.prog.info? 76).bind (·.zero) = some (.agg #[.pointer none, .pointer none, .pointer none]) := by kernel_rfl
theorem z85 : (Tryz.prog.info? 85).bind (·.zero) = some (.agg #[.int .i64 0, .int .i64 0, .int .i64 0, .int .i64 0]) := by kernel_rfl
theorem z91 : (Tryz.prog.info? 91).bind (·.zero) = some (.agg #[.pointer none, .int .i64 0]) := by kernel_rfl
theorem z96 : (Tryz.prog.info? 96).bind (·.zero) = some (.agg #[.pointer none]) := by kernel_rfl
theorem z102 : (Tryz.prog.info? 102).bind (·.zero) = some (.agg #[.int .i64 0, .int .i64 0, .int .i64 0, .int .i64 0]) := by kernel_rfl
theorem z107 : (Tryz.prog.info? 107).bind (·.zero) = some (.agg #[.pointer none, .int .i64 0]) := by kernel_rfl
theorem z111 : (Tryz.prog.info? 111).bind (·.zero) = some (.agg #[.pointer none, .int .i64 0]) := by kernel_rfl
theorem z123 : (Tryz.prog.info? 123).bind (·.zero) = some (.slice none 0 0) := by kernel_rfl
theorem z132 : (Tryz.prog.info? 132).bind (·.zero) = some (.agg #[.slice none 0 0, .slice none 0 0]) := by kernel_rfl
theorem z137 : (Tryz.prog.info? 137).bind (·.zero) = some (.agg #[.slice none 0 0, .bool false]) := by kernel_rfl
theorem z158 : (Tryz.prog.info? 158).bind (·.zero) = some (.agg #[.pointer none, .int .i64 0]) := by kernel_rfl
theorem z198 : (Tryz.prog.info? 198).bind (·.zero) = some (.agg #[.int .u8 0, .int .i64 0, .int .i64 0]) := by kernel_rfl
theorem z217 : (Tryz.prog.info? 217).bind (·.zero) = some (.agg #[.int .i64 0, .int .i64 0, .int .i64 0]) := by kernel_rfl
theorem z274 : (Tryz.prog.info? 274).bind (·.zero) = some (.agg #[.pointer none, .slice none 0 0]) := by kernel_rfl
theorem zr3 : ((Tryz.prog.info? 3).any fun i => i.zero.isSome) = true := by kernel_rfl
theorem zr5 : ((Tryz.prog.info? 5).any fun i => i.zero.isSome) = true := by kernel_rfl
theorem zr9 : ((Tryz.prog.info? 9).any fun i => i.zero.isSome) = true := by kernel_rfl
theorem zr29 : ((Tryz.prog.info? 29).any fun i => i.zero.isSome) = true := by kernel_rfl
theorem zr48 : ((Tryz.prog.info? 48).any fun i => i.zero.isSome) = true := by kernel_rfl
theorem zr85 : ((Tryz.prog.info? 85).any fun i => i.zero.isSome) = true := by kernel_rfl
theorem zr123 : ((Tryz.prog.info? 123).any fun i => i.zero.isSome) = true := by kernel_rfl
theorem zr132 : ((Tryz.prog.info? 132).any fun i => i.zero.isSome) = true := by kernel_rfl
theorem al29 (K : AV → Prop) : awpAlloc ((Tryz.prog.info? 29).bind (·.zero)) K = K (.box [.v (.int .i64 0), .v (.int .i64 0), .v (.int .i64 0), .v (.int .i64 0), .v (.int .i64 0), .v (.bool false), .v (.int .i64 0), .v (.int .i64 0), .v (.int .i64 0), .v (.int .i64 0), .v (.int .i64 0), .v (.int .i64 0)]) := alloc_eq z29 rfl rfl K
theorem al31 (K : AV → Prop) : awpAlloc ((Tryz.prog.info? 31).bind (·.zero)) K = K (.box [.v (.int .i64 0), .v (.int .i64 0), .v (.int .i64 0), .v (.int .i64 0), .v (.int .i64 0), .v (.int .i64 0), .v (.int .i64 0), .v (.int .i64 0), .v (.int .i64 0), .v (.int .i64 0), .v (.bool false), .v (.int .i64 0), .v (.int .i64 0), .v (.int .i64 0), .v (.int .i64 0), .v (.int .i64 0), .v (.int .i64 0)]) := alloc_eq z31 rfl rfl K
theorem al42 (K : AV → Prop) : awpAlloc ((Tryz.prog.info? 42).bind (·.zero)) K = K (.box [.v (.int .i64 0), .v (.int .i64 0), .v (.int .i64 0), .v (.int .i64 0), .v (.int .i64 0)]) := alloc_eq z42 rfl rfl K
theorem al48 (K : AV → Prop) : awpAlloc ((Tryz.prog.info? 48).bind (·.zero)) K = K (.box [.v (.int .i64 0), .v (.int .i64 0), .v (.int .i64 0), .v (.int .i64 0)]) := alloc_eq z48 rfl rfl K
theorem al85 (K : AV → Prop) : awpAlloc ((Tryz.prog.info? 85).bind (·.zero)) K = K (.box [.v (.int .i64 0), .v (.int .i64 0), .v (.int .i64 0), .v (.int .i64 0)]) := alloc_eq z85 rfl rfl K
theorem al91 (K : AV → Prop) : awpAlloc ((Tryz.prog.info? 91).bind (·.zero)) K = K (.box [.v (.pointer none), .v (.int .i64 0)]) := alloc_eq z91 rfl rfl K
theorem al96 (K : AV → Prop) : awpAlloc ((Tryz.prog.info? 96).bind (·.zero)) K = K (.box [.v (.pointer none)]) := alloc_eq z96 rfl rfl K
theorem al107 (K : AV → Prop) : awpAlloc ((Tryz.prog.info? 107).bind (·.zero)) K = K (.box [.v (.pointer none), .v (.int .i64 0)]) := alloc_eq z107 rfl rfl K
theorem al111 (K : AV → Prop) : awpAlloc ((Tryz.prog.info? 111).bind (·.zero)) K = K (.box [.v (.pointer none), .v (.int .i64 0)]) := alloc_eq z111 rfl rfl K
theorem al132 (K : AV → Prop) : awpAlloc ((Tryz.prog.info? 132).bind (·.zero)) K = K (.box [.v (.slice none 0 0), .v (.slice none 0 0)]) := alloc_eq z132 rfl rfl K
theorem al137 (K : AV → Prop) : awpAlloc ((Tryz.prog.info? 137).bind (·.zero)) K = K (.box [.v (.slice none 0 0), .v (.bool false)]) := alloc_eq z137 rfl rfl K
theorem al198 (K : AV → Prop) : awpAlloc ((Tryz.prog.info? 198).bind (·.zero)) K = K (.box [.v (.int .u8 0), .v (.int .i64 0), .v (.int .i64 0)]) := alloc_eq z198 rfl rfl K
theorem al217 (K : AV → Prop) : awpAlloc ((Tryz.prog.info? 217).bind (·.zero)) K = K (.box [.v (.int .i64 0), .v (.int .i64 0), .v (.int .i64 0)]) := alloc_eq z217 rfl rfl K
theorem bd29 (parts : List (Nat × AV)) (K : AV → Prop) : awpBuild Tryz.prog 29 parts K = bldE [(0, 1), (1, 1), (2, 1), (3, 1), (4, 1), (5, 1), (6, 1), (7, 1), (8, 1), (9, 1), (10, 1), (11, 1)] [.v (.int .i64 0), .v (.int .i64 0), .v (.int .i64 0), .v (.int .i64 0), .v (.int .i64 0), .v (.bool false), .v (.int .i64 0), .v (.int .i64 0), .v (.int .i64 0), .v (.int .i64 0), .v (.int .i64 0), .v (.int .i64 0)] K parts := build_eq fl29 z29 rfl parts K
theorem bd42 (parts : List (Nat × AV)) (K : AV → Prop) : awpBuild Tryz.prog 42 parts K = bldE [(0, 1), (1, 1), (2, 1), (3, 1), (4, 1)] [.v (.int .i64 0), .v (.int .i64 0), .v (.int .i64 0), .v (.int .i64 0), .v (.int .i64 0)] K parts := build_eq fl42 z42 rfl parts K
theorem bd48 (parts : List (Nat × AV)) (K : AV → Prop) : awpBuild Tryz.prog 48 parts K = bldE [(0, 1), (1, 1), (2, 1), (3, 1)] [.v (.int .i64 0), .v (.int .i64 0), .v (.int .i64 0), .v (.int .i64 0)] K parts := build_eq fl48 z48 rfl parts K
theorem bd74 (parts : List (Nat × AV)) (K : AV → Prop) : awpBuild Tryz.prog 74 parts K = bldE [(0, 1)] [.v (.slice none 0 0)] K parts := build_eq fl74 z74 rfl parts K
theorem bd76 (parts : List (Nat × AV)) (K : AV → Prop) : awpBuild Tryz.prog 76 parts K = bldE [(0, 1), (1, 1), (2, 1)] [.v (.pointer none), .v (.pointer none), .v (.pointer none)] K parts := build_eq fl76 z76 rfl parts K
theorem bd85 (parts : List (Nat × AV)) (K : AV → Prop) : awpBuild Tryz.prog 85 parts K = bldE [(0, 1), (1, 1), (2, 1), (3, 1)] [.v (.int .i64 0), .v (.int .i64 0), .v (.int .i64 0), .v (.int .i64 0)] K parts := build_eq fl85 z85 rfl parts K
theorem bd91 (parts : List (Nat × AV)) (K : AV → Prop) : awpBuild Tryz.prog 91 parts K = bldE [(0, 1), (1, 1)] [.v (.pointer none), .v (.int .i64 0)] K parts := build_eq fl91 z91 rfl parts K
theorem bd96 (parts : List (Nat × AV)) (K : AV → Prop) : awpBuild Tryz.prog 96 parts K = bldE [(0, 1)] [.v (.pointer none)] K parts := build_eq fl96 z96 rfl parts K
theorem bd102 (parts : List (Nat × AV)) (K : AV → Prop) : awpBuild Tryz.prog 102 parts K = bldE [(0, 1), (1, 1), (2, 1), (3, 1)] [.v (.int .i64 0), .v (.int .i64 0), .v (.int .i64 0), .v (.int .i64 0)] K parts := build_eq fl102 z102 rfl parts K
theorem bd107 (parts : List (Nat × AV)) (K : AV → Prop) : awpBuild Tryz.prog 107 parts K = bldE [(0, 1), (1, 1)] [.v (.pointer none), .v (.int .i64 0)] K parts := build_eq fl107 z107 rfl parts K
theorem bd111 (parts : List (Nat × AV)) (K : AV → Prop) : awpBuild Tryz.prog 111 parts K = bldE [(0, 1), (1, 1)] [.v (.pointer none), .v (.int .i64 0)] K parts := build_eq fl111 z111 rfl parts K
theorem bd132 (parts : List (Nat × AV)) (K : AV → Prop) : awpBuild Tryz.prog 132 parts K = bldE [(0, 1), (1, 1)] [.v (.slice none 0 0), .v (.slice none 0 0)] K parts := build_eq fl132 z132 rfl parts K
theorem bd158 (parts : List (Nat × AV)) (K : AV → Prop) : awpBuild Tryz.prog 158 parts K = bldE [(0, 1), (1, 1)] [.v (.pointer none), .v (.int .i64 0)] K parts := build_eq fl158 z158 rfl parts K
theorem bd198 (parts : List (Nat × AV)) (K : AV → Prop) : awpBuild Tryz.prog 198 parts K = bldE [(0, 1), (1, 1), (2, 1)] [.v (.int .u8 0), .v (.int .i64 0), .v (.int .i64 0)] K parts := build_eq fl198 z198 rfl parts K
theorem bd217 (parts : List (Nat × AV)) (K : AV → Prop) : awpBuild Tryz.prog 217 parts K = bldE [(0, 1), (1, 1), (2, 1)] [.v (.int .i64 0), .v (.int .i64 0), .v (.int .i64 0)] K parts := build_eq fl217 z217 rfl parts K
def q3 := PLift.up ((zZ (zZ (zZ (zZ Tryz.underlying22 (zZ es22 as22)) (zZ of31 (zZ al31 sz31))) (zZ (zZ Tryz.underlying36 (zZ es36 as36)) (zZ of29 (zZ al29 sz29)))) (zZ (zZ (zZ fo29_1 (zZ of3 fo29_6)) (zZ fo29_5 (zZ of4 fo31_2))) (zZ (zZ al42 (zZ sz42 es43)) (zZ as43 (zZ of48 Tryz.results3))))))
def q4 := PLift.up ((zZ (zZ (zZ Tryz.underlying36 Tryz.underlying22) (zZ es22 as22)) (zZ (zZ of31 al31) (zZ sz31 Tryz.results4))))
def q5 := PLift.up ((zZ bd29 Tryz.results5))
def q6 := PLift.up ((zZ (zZ (zZ Tryz.underlying36 es36) (zZ as36 of29)) (zZ (zZ al29 sz29) (zZ fo29_0 (zZ sz3 Tryz.results6)))))
def q7 := PLift.up ((zZ (zZ fo69_3 (zZ of32 fo69_1)) (zZ (zZ of66 fo69_0) (zZ of65 Tryz.results7))))
def q8 := PLift.up ((zZ (zZ (zZ fo76_1 of72) (zZ fo74_0 of60)) (zZ (zZ bd74 fo76_0) (zZ sz72 (zZ fo76_2 Tryz.results8)))))
def q9 := PLift.up ((zZ (zZ (zZ fo31_0 of3) (zZ fo31_5 (zZ of29 fo31_1))) (zZ (zZ fo31_2 (zZ fo31_4 fo31_3)) (zZ bd85 (zZ es86 Tryz.results9)))))
def q10 := PLift.up ((zZ (zZ fo69_0 of65) (zZ fo69_3 (zZ sz32 Tryz.results10))))
def q11 := PLift.up ((zZ (zZ (zZ fo76_0 of72) (zZ fo74_0 of60)) (zZ (zZ bd74 fo76_1) (zZ sz72 (zZ fo76_2 Tryz.results11)))))
def q12 := PLift.up ((zZ bd91 Tryz.results12))
def q13 := PLift.up ((zZ (zZ (zZ Tryz.underlying36 es36) (zZ as36 of29)) (zZ (zZ al29 sz29) (zZ fo29_6 (zZ of3 Tryz.results13)))))
def q14 := PLift.up (Tryz.results14)
def q16 := PLift.up ((zZ (zZ (zZ (zZ of42 al42) (zZ bd96 al96)) (zZ (zZ sz96 of96) (zZ sz42 bd42))) (zZ (zZ (zZ fo42_4 of3) (zZ Tryz.underlying43 al48)) (zZ (zZ sz48 of48) (zZ es43 (zZ as43 Tryz.results16))))))
def q17 := PLift.up ((zZ (zZ fo48_1 (zZ of3 fo48_2)) (zZ (zZ fo48_3 of48) (zZ bd102 Tryz.results17))))
def q19 := PLift.up ((zZ (zZ (zZ (zZ fo29_0 of3) (zZ of29 bd107)) (zZ (zZ al107 sz107) (zZ of107 (zZ fo29_1 al29)))) (zZ (zZ (zZ sz29 fo29_2) (zZ fo29_3 fo29_4)) (zZ (zZ fo29_5 of4) (zZ fo29_6 (zZ bd29 Tryz.results19))))))
def q24 := PLift.up ((zZ Tryz.underlying120 (zZ es120 Tryz.results24)))
def q25 := PLift.up ((zZ Tryz.underlying120 (zZ es120 Tryz.results25)))
def q26 := PLift.up ((zZ Tryz.underlying120 (zZ es120 Tryz.results26)))
def q27 := PLift.up ((zZ (zZ Tryz.underlying120 es120) (zZ as120 (zZ of3 Tryz.results27))))
def q29 := PLift.up ((zZ (zZ of29 (zZ al132 sz132)) (zZ (zZ fo132_0 of123) (zZ fo132_1 Tryz.results29))))
def q31 := PLift.up ((zZ (zZ (zZ (zZ fo69_0 of65) (zZ Tryz.underlying134 (zZ es134 as134))) (zZ (zZ of9 al137) (zZ sz137 (zZ fo137_1 of4)))) (zZ (zZ (zZ es61 (fun tx => append_own (tx := tx) ei61)) (zZ (fun tx => append_nil (tx := tx) ei61) (zZ fo137_0 of123))) (zZ (zZ bd132 es60) (zZ (fun tx => append_own (tx := tx) ei60) (zZ (fun tx => append_nil (tx := tx) ei60) Tryz.results31))))))
def q32 := PLift.up ((zZ (zZ (zZ fo69_0 of65) (zZ al137 (zZ sz137 fo137_1))) (zZ (zZ of4 (zZ fo69_2 of67)) (zZ fo137_0 (zZ of123 Tryz.results32)))))
def q35 := PLift.up ((zZ (zZ (zZ (zZ fo29_0 of3) (zZ fo29_1 (zZ fo29_6 fo29_4))) (zZ (zZ fo29_3 fo29_2) (zZ al29 (zZ sz29 Tryz.underlying36)))) (zZ (zZ (zZ es36 as36) (zZ fo29_7 (zZ sz3 fo29_8))) (zZ (zZ fo29_9 fo29_10) (zZ fo29_11 (zZ of29 Tryz.results35))))))
def q36 := PLift.up ((zZ (zZ (zZ bd107 (zZ al107 sz107)) (zZ al29 (zZ sz29 fo29_2))) (zZ (zZ of3 (zZ of107 fo29_1)) (zZ fo29_6 (zZ of29 Tryz.results36)))))
def q37 := PLift.up ((zZ (zZ al29 (zZ sz29 fo29_2)) (zZ (zZ of3 fo29_6) (zZ of29 Tryz.results37))))
def q38 := PLift.up ((zZ (zZ (zZ al29 sz29) (zZ fo29_2 (zZ of3 bd107))) (zZ (zZ al107 (zZ sz107 of107)) (zZ of29 (zZ fo29_6 Tryz.results38)))))
def q39 := PLift.up ((zZ (zZ al29 (zZ sz29 fo29_2)) (zZ (zZ of3 of29) (zZ fo29_6 Tryz.results39))))
def q40 := PLift.up ((zZ (zZ (zZ al42 (zZ sz42 Tryz.underlying43)) (zZ (zZ fo42_2 of3) (zZ es43 as43))) (zZ (zZ (zZ of48 al48) (zZ sz48 fo42_1)) (zZ (zZ fo48_0 fo48_3) (zZ sz3 Tryz.results40)))))
def q41 := PLift.up ((zZ (zZ (zZ al42 (zZ sz42 Tryz.underlying43)) (zZ (zZ fo42_2 of3) (zZ es43 as43))) (zZ (zZ (zZ of48 al48) (zZ sz48 fo42_1)) (zZ (zZ fo48_0 fo48_3) (zZ sz3 Tryz.results41)))))
def q42 := PLift.up ((zZ bd158 (zZ bd42 Tryz.results42)))
def q43 := PLift.up ((zZ bd42 Tryz.results43))
def q44 := PLift.up ((zZ (zZ (zZ (zZ fo91_0 of24) (zZ fo91_1 of3)) (zZ (zZ es120 Tryz.underlying60) (zZ es60 (zZ as60 of132)))) (zZ (zZ (zZ al132 sz132) (zZ al29 (zZ sz29 fo29_0))) (zZ (zZ of29 es36) (zZ (fun tx => append_own (tx := tx) ei36) (zZ (fun tx => append_nil (tx := tx) ei36) Tryz.results44))))))
def q46 := PLift.up ((zZ fo29_2 (zZ of3 Tryz.results46)))
def q47 := PLift.up ((zZ (zZ (zZ of42 (zZ al42 of96)) (zZ es120 (zZ al132 sz132))) (zZ (zZ bd42 (zZ sz42 of132)) (zZ (zZ fo42_0 of3) (zZ fo42_4 Tryz.results47)))))
def q48 := PLift.up ((zZ (zZ (zZ of48 al48) (zZ of96 (zZ es120 al132))) (zZ (zZ sz132 bd48) (zZ sz48 (zZ of132 Tryz.results48)))))
def q49 := PLift.up ((zZ (zZ fo48_1 of3) (zZ fo48_2 (zZ fo48_3 Tryz.results49))))
def q54 := PLift.up ((zZ (zZ fo29_1 of3) (zZ fo29_6 (zZ fo29_4 Tryz.results54))))
def q55 := PLift.up ((zZ (zZ (zZ fo107_0 of24) (zZ fo29_3 (zZ of3 fo29_0))) (zZ (zZ fo29_2 al29) (zZ sz29 (zZ fo29_4 Tryz.results55)))))
def q56 := PLift.up ((zZ (zZ of29 al29) (zZ bd91 (zZ sz29 Tryz.results56))))
def q57 := PLift.up ((zZ (zZ (zZ fo29_2 of3) (zZ fo107_0 (zZ of24 fo29_0))) (zZ (zZ Tryz.underlying36 (zZ of107 fo29_6)) (zZ es36 (zZ as36 Tryz.results57)))))
def q64 := PLift.up (Tryz.results64)
def q65 := PLift.up ((zZ Tryz.underlying9 Tryz.results65))
def q66 := PLift.up ((zZ (zZ es120 (fun src => cvX_str (src := src) Tryz.underlying9)) (zZ Tryz.underlying123 Tryz.results66)))
def q67 := PLift.up (Tryz.results67)
def q70 := PLift.up (Tryz.results70)
def q71 := PLift.up ((zZ Tryz.underlying9 Tryz.results71))
def q72 := PLift.up ((zZ (zZ es120 (fun src => cvX_str (src := src) Tryz.underlying9)) (zZ Tryz.underlying123 Tryz.results72)))
def q73 := PLift.up (Tryz.results73)
def q76 := PLift.up (Tryz.results76)
def q77 := PLift.up ((zZ es120 Tryz.results77))
def q78 := PLift.up (Tryz.results78)
def q79 := PLift.up (Tryz.results79)
def q80 := PLift.up ((zZ es120 Tryz.results80))
def q81 := PLift.up ((zZ (zZ (zZ es123 (zZ Tryz.underlying60 es60)) (zZ as60 (zZ fo132_0 of123))) (zZ (zZ es120 (zZ as120 of3)) (zZ (fun tx => append_own (tx := tx) ei120) (zZ (fun tx => append_nil (tx := tx) ei120) Tryz.results81)))))
def q82 := PLift.up (Tryz.results82)
def q84 := PLift.up ((zZ (zZ (zZ (zZ of132 al132) (zZ fo29_5 of4)) (zZ (zZ fo29_0 of3) (zZ fo29_1 (zZ es120 fo29_2)))) (zZ (zZ (zZ fo29_3 fo29_4) (zZ fo29_6 (zZ fo29_7 fo29_8))) (zZ (zZ fo29_9 fo29_10) (zZ fo29_11 (zZ sz132 Tryz.results84))))))
def q85 := PLift.up ((zZ (zZ es134 (fun tx => append_own (tx := tx) ei134)) (zZ (fun tx => append_nil (tx := tx) ei134) Tryz.results85)))
def q94 := PLift.up (Tryz.results94)
def q95 := PLift.up ((zZ (zZ (zZ of29 al29) (zZ es120 (zZ bd132 sz29))) (zZ (zZ fo29_0 of3) (zZ fo29_1 (zZ bd29 Tryz.results95)))))
def q96 := PLift.up ((zZ (zZ (zZ Tryz.underlying36 al29) (zZ sz29 (zZ of29 es36))) (zZ (zZ (fun tx => append_own (tx := tx) ei36) (fun tx => append_nil (tx := tx) ei36)) (zZ fo29_2 (zZ of3 Tryz.results96)))))
def q97 := PLift.up ((zZ (zZ Tryz.underlying36 (zZ es36 as36)) (zZ fo29_6 (zZ of3 Tryz.results97))))
def q98 := PLift.up ((zZ (zZ (zZ Tryz.underlying36 es36) (zZ as36 fo29_2)) (zZ (zZ of3 of29) (zZ (fun tx => append_own (tx := tx) ei36) (zZ (fun tx => append_nil (tx := tx) ei36) Tryz.results98)))))
def q99 := PLift.up ((zZ (zZ fo107_0 of24) (zZ fo107_1 (zZ of3 Tryz.results99))))
def q100 := PLift.up ((zZ (zZ (zZ of29 of107) (zZ fo29_1 (zZ of3 fo29_5))) (zZ (zZ of4 (zZ fo29_6 sz3)) (zZ fo107_0 (zZ of24 Tryz.results100)))))
def q101 := PLift.up ((zZ (zZ (zZ of29 fo29_0) (zZ of3 fo29_1)) (zZ (zZ fo29_5 of4) (zZ fo29_6 (zZ sz3 Tryz.results101)))))
def q102 := PLift.up (Tryz.results102)
def q103 := PLift.up (Tryz.results103)
def q104 := PLift.up (Tryz.results104)
def q106 := PLift.up ((zZ (zZ al42 (zZ sz42 Tryz.underlying43)) (zZ bd96 (zZ of48 Tryz.results106))))
def q107 := PLift.up ((zZ (zZ (zZ (zZ of42 al42) (zZ es120 bd132)) (zZ (zZ sz42 fo42_0) (zZ of3 fo42_4))) (zZ (zZ (zZ bd42 al48) (zZ sz48 of48)) (zZ (zZ es43 (fun tx => append_own (tx := tx) ei43)) (zZ (fun tx => append_nil (tx := tx) ei43) Tryz.results107)))))
def q108 := PLift.up ((zZ (zZ fo48_1 of3) (zZ fo48_2 (zZ fo48_3 Tryz.results108))))
def q109 := PLift.up ((zZ (zZ (zZ Tryz.underlying36 (zZ es36 as36)) (zZ of29 (zZ al29 sz29))) (zZ (zZ fo29_7 (zZ of3 fo29_8)) (zZ fo29_9 (zZ sz3 Tryz.results109)))))
def q110 := PLift.up ((zZ (zZ al42 sz42) (zZ Tryz.underlying43 (zZ of48 Tryz.results110))))
def q111 := PLift.up ((zZ Tryz.underlying86 Tryz.results111))
def q112 := PLift.up ((zZ (zZ (zZ Tryz.underlying86 (zZ es86 as86)) (zZ (zZ of85 al85) (zZ sz85 fo85_2))) (zZ (zZ of3 (zZ fo85_3 bd48)) (zZ (zZ es43 (fun tx => append_own (tx := tx) ei43)) (zZ (fun tx => append_nil (tx := tx) ei43) Tryz.results112)))))
def q113 := PLift.up ((zZ (zZ (zZ Tryz.underlying43 (zZ es43 as43)) (zZ of48 (zZ al48 sz48))) (zZ (zZ fo158_0 (zZ of24 fo158_1)) (zZ (zZ of3 fo48_0) (zZ fo48_1 Tryz.results113)))))
def q114 := PLift.up ((zZ (zZ (zZ Tryz.underlying43 (zZ bd96 al96)) (zZ (zZ sz96 es43) (zZ as43 of48))) (zZ (zZ (zZ al48 sz48) (zZ of96 fo42_0)) (zZ (zZ sz3 fo42_4) (zZ of42 Tryz.results114)))))
def q115 := PLift.up (Tryz.results115)
def q116 := PLift.up ((zZ (zZ (zZ Tryz.underlying86 es86) (zZ as86 (zZ fo85_2 of3))) (zZ (zZ fo85_3 (zZ bd48 es43)) (zZ (fun tx => append_own (tx := tx) ei43) (zZ (fun tx => append_nil (tx := tx) ei43) Tryz.results116)))))
def q117 := PLift.up ((zZ (zZ Tryz.underlying43 (zZ es43 as43)) (zZ (zZ fo48_1 of3) (zZ fo48_0 Tryz.results117))))
def q118 := PLift.up ((zZ (zZ (zZ Tryz.underlying43 es43) (zZ as43 (zZ of48 fo42_1))) (zZ (zZ of3 fo42_2) (zZ fo42_3 (zZ bd42 Tryz.results118)))))
def q121 := PLift.up ((zZ (zZ of132 (zZ al132 fo96_0)) (zZ (zZ of24 bd132) (zZ sz132 Tryz.results121))))
def q122 := PLift.up ((zZ (zZ (zZ of42 al42) (zZ of132 bd42)) (zZ (zZ sz42 es120) (zZ as120 (zZ of3 Tryz.results122)))))
def q123 := PLift.up ((zZ (zZ (zZ of48 al48) (zZ of132 bd48)) (zZ (zZ sz48 es120) (zZ as120 (zZ of3 Tryz.results123)))))
def q135 := PLift.up (Tryz.results135)
def q144 := PLift.up (Tryz.results144)
def q145 := PLift.up (Tryz.results145)
def q146 := PLift.up (Tryz.results146)
def q147 := PLift.up ((zZ (zZ (zZ (zZ es123 Tryz.underlying60) (zZ es60 as60)) (zZ (zZ of132 al132) (zZ sz132 fo132_0))) (zZ (zZ (zZ of123 Tryz.underlying120) (zZ es120 as120)) (zZ (zZ of3 (fun tx => append_own (tx := tx) ei120)) (zZ (fun tx => append_nil (tx := tx) ei120) Tryz.results147)))))
def q153 := PLift.up (Tryz.results153)
def q154 := PLift.up ((zZ (zZ Tryz.underlying120 (zZ es120 as120)) (zZ of3 (zZ sz3 Tryz.results154))))
def q155 := PLift.up ((zZ Tryz.underlying120 Tryz.results155))
def q159 := PLift.up ((zZ (zZ of132 al132) (zZ bd132 (zZ sz132 Tryz.results159))))
def q170 := PLift.up ((zZ (zZ (zZ of29 al29) (zZ of132 bd29)) (zZ (zZ sz29 es120) (zZ as120 (zZ of3 Tryz.results170)))))
def q171 := PLift.up ((zZ (zZ (zZ es120 (zZ Tryz.underlying60 es60)) (zZ (zZ as60 of132) (zZ al29 sz29))) (zZ (zZ fo29_0 (zZ of3 of29)) (zZ (zZ es36 (fun tx => append_own (tx := tx) ei36)) (zZ (fun tx => append_nil (tx := tx) ei36) Tryz.results171)))))
def q172 := PLift.up ((zZ (zZ fo29_7 of3) (zZ fo29_8 (zZ fo29_9 Tryz.results172))))
def q175 := PLift.up ((zZ (zZ fo96_0 (zZ of24 fo132_0)) (zZ of123 (zZ fo132_1 Tryz.results175))))
def q176 := PLift.up ((zZ (zZ (zZ of132 al132) (zZ fo48_0 (zZ of3 fo48_1))) (zZ (zZ fo48_2 fo48_3) (zZ es120 (zZ sz132 Tryz.results176)))))
def q177 := PLift.up ((zZ (zZ (zZ of42 al42) (zZ of132 bd42)) (zZ (zZ sz42 es120) (zZ as120 (zZ of3 Tryz.results177)))))
def q178 := PLift.up ((zZ (zZ of48 (zZ al48 es120)) (zZ bd132 (zZ sz48 Tryz.results178))))
def q179 := PLift.up (Tryz.results179)
def q180 := PLift.up ((zZ (zZ of29 (zZ fo29_6 of3)) (zZ fo29_5 (zZ of4 Tryz.results180))))
def q182 := PLift.up ((zZ (zZ (zZ of132 al132) (zZ es120 (zZ fo48_0 of3))) (zZ (zZ fo48_1 fo48_2) (zZ fo48_3 (zZ sz132 Tryz.results182)))))
def q183 := PLift.up ((zZ fo85_3 (zZ of3 Tryz.results183)))
def q184 := PLift.up (Tryz.results184)
def q186 := PLift.up ((zZ (zZ (zZ of132 al132) (zZ fo42_0 (zZ of3 fo42_1))) (zZ (zZ fo42_2 (zZ fo42_3 fo42_4)) (zZ es120 (zZ sz132 Tryz.results186)))))
def q187 := PLift.up ((zZ (zZ Tryz.underlying86 (zZ es86 as86)) (zZ fo85_3 (zZ of3 Tryz.results187))))
def q189 := PLift.up ((zZ (zZ (zZ of132 al132) (zZ fo42_0 (zZ of3 es120))) (zZ (zZ fo42_1 (zZ fo42_2 fo42_3)) (zZ fo42_4 (zZ sz132 Tryz.results189)))))
def q191 := PLift.up ((zZ (zZ of198 al198) (zZ bd198 (zZ sz198 Tryz.results191))))
def q192 := PLift.up ((zZ (zZ of198 al198) (zZ bd198 (zZ sz198 Tryz.results192))))
def q200 := PLift.up ((zZ (zZ Tryz.underlying123 es123) (zZ as123 (zZ of5 Tryz.results200))))
def q205 := PLift.up ((zZ (zZ Tryz.underlying120 es120) (zZ as120 (zZ of3 Tryz.results205))))
def q206 := PLift.up ((zZ (zZ (zZ Tryz.underlying123 es120) (zZ (fun tx => append_own (tx := tx) ei120) (fun tx => append_nil (tx := tx) ei120))) (zZ (zZ es123 as123) (zZ of5 Tryz.results206))))
def q222 := PLift.up ((zZ (zZ fo132_0 of123) (zZ fo132_1 Tryz.results222)))
def q227 := PLift.up ((zZ (zZ (zZ of48 al48) (zZ of132 bd48)) (zZ (zZ sz48 es120) (zZ as120 (zZ of3 Tryz.results227)))))
def q228 := PLift.up (Tryz.results228)
def q229 := PLift.up ((zZ (zZ Tryz.underlying86 es86) (zZ as86 (zZ of85 Tryz.results229))))
end Go.Proofs.Lx
