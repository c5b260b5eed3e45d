/- What the types of this program say. -/
import Derived.Test.YtiggbkhkmecagaaGreatDoorV2
import Derived.Test.YtiggbkhkmecagaaGreatDoorProg
import Derived.KernelRfl
/- What the types of this program say: printed. -/
set_option linter.unusedSimpArgs false
set_option linter.unusedVariables false
namespace Go.Proofs.Lx
open Go.Vm
theorem as22 : arrSz Tryz.prog 22 = none := by kernel_rfl
theorem as28 : arrSz Tryz.prog 28 = none := by kernel_rfl
theorem as32 : arrSz Tryz.prog 32 = none := by kernel_rfl
theorem as36 : arrSz Tryz.prog 36 = none := by kernel_rfl
theorem as55 : arrSz Tryz.prog 55 = none := by kernel_rfl
theorem as65 : arrSz Tryz.prog 65 = none := by kernel_rfl
theorem as84 : arrSz Tryz.prog 84 = none := by kernel_rfl
theorem as112 : arrSz Tryz.prog 112 = none := by kernel_rfl
theorem as262 : arrSz Tryz.prog 262 = none := by kernel_rfl
theorem bt32 : bytesT Tryz.prog 32 = true := by kernel_rfl
theorem cv3_5 (n : Int) (s' s : Slots) (K : AV → Slots → Prop) : awpCvX Tryz.prog 3 5 (.v (.int .i64 n), s') (.v (.int .i64 n)) (.v (.int .i64 n)) s K = K (.v (.int .u8 (IntKind.u8.wrap n))) s := cvi (d := .int .i64) (by kernel_rfl) (by kernel_rfl) n s' s K
theorem cv3_270 (n : Int) (s' s : Slots) (K : AV → Slots → Prop) : awpCvX Tryz.prog 3 270 (.v (.int .i64 n), s') (.v (.int .i64 n)) (.v (.int .i64 n)) s K = K (.v (.int .u64 (IntKind.u64.wrap n))) s := cvi (d := .int .i64) (by kernel_rfl) (by kernel_rfl) n s' s K
theorem cv5_3 (n : Int) (s' s : Slots) (K : AV → Slots → Prop) : awpCvX Tryz.prog 5 3 (.v (.int .u8 n), s') (.v (.int .u8 n)) (.v (.int .u8 n)) s K = K (.v (.int .i64 (IntKind.i64.wrap n))) s := cvi (d := .int .u8) (by kernel_rfl) (by kernel_rfl) n s' s K
theorem cv5_270 (n : Int) (s' s : Slots) (K : AV → Slots → Prop) : awpCvX Tryz.prog 5 270 (.v (.int .u8 n), s') (.v (.int .u8 n)) (.v (.int .u8 n)) s K = K (.v (.int .u64 (IntKind.u64.wrap n))) s := cvi (d := .int .u8) (by kernel_rfl) (by kernel_rfl) n s' s K
theorem cv26_3 (n : Int) (s' s : Slots) (K : AV → Slots → Prop) : awpCvX Tryz.prog 26 3 (.v (.int .u16 n), s') (.v (.int .u16 n)) (.v (.int .u16 n)) s K = K (.v (.int .i64 (IntKind.i64.wrap n))) s := cvi (d := .int .u16) (by kernel_rfl) (by kernel_rfl) n s' s K
theorem cv270_3 (n : Int) (s' s : Slots) (K : AV → Slots → Prop) : awpCvX Tryz.prog 270 3 (.v (.int .u64 n), s') (.v (.int .u64 n)) (.v (.int .u64 n)) s K = K (.v (.int .i64 (IntKind.i64.wrap n))) s := cvi (d := .int .u64) (by kernel_rfl) (by kernel_rfl) n s' s K
theorem cv270_5 (n : Int) (s' s : Slots) (K : AV → Slots → Prop) : awpCvX Tryz.prog 270 5 (.v (.int .u64 n), s') (.v (.int .u64 n)) (.v (.int .u64 n)) s K = K (.v (.int .u8 (IntKind.u8.wrap n))) s := cvi (d := .int .u64) (by kernel_rfl) (by kernel_rfl) n s' s K
theorem ei28 : elemIn Tryz.prog 28 = some (3, 1, 8) := by kernel_rfl
theorem ei32 : elemIn Tryz.prog 32 = some (5, 1, 1) := by kernel_rfl
theorem ei55 : elemIn Tryz.prog 55 = some (62, 4, 32) := by kernel_rfl
theorem ei65 : elemIn Tryz.prog 65 = some (155, 2, 48) := by kernel_rfl
theorem ei84 : elemIn Tryz.prog 84 = some (93, 12, 96) := by kernel_rfl
theorem ei194 : elemIn Tryz.prog 194 = some (32, 1, 24) := by kernel_rfl
theorem ei262 : elemIn Tryz.prog 262 = some (9, 1, 16) := by kernel_rfl
theorem es22 : elemSz Tryz.prog 22 = some (26, 1) := by kernel_rfl
theorem es28 : elemSz Tryz.prog 28 = some (3, 1) := by kernel_rfl
theorem es32 : elemSz Tryz.prog 32 = some (5, 1) := by kernel_rfl
theorem es36 : elemSz Tryz.prog 36 = some (45, 4) := by kernel_rfl
theorem es55 : elemSz Tryz.prog 55 = some (62, 4) := by kernel_rfl
theorem es65 : elemSz Tryz.prog 65 = some (155, 2) := by kernel_rfl
theorem es84 : elemSz Tryz.prog 84 = some (93, 12) := by kernel_rfl
theorem es112 : elemSz Tryz.prog 112 = some (114, 3) := by kernel_rfl
theorem es194 : elemSz Tryz.prog 194 = some (32, 1) := by kernel_rfl
theorem es262 : elemSz Tryz.prog 262 = some (9, 1) := by kernel_rfl
theorem fd62 : flatDs Tryz.prog 62 = some [.int .i64, .int .i64, .int .i64, .int .i64] := by kernel_rfl
theorem fl45 : fieldsAt Tryz.prog 45 = some [(0, 1), (1, 1), (2, 1), (3, 1)] := by kernel_rfl
theorem fl54 : fieldsAt Tryz.prog 54 = some [(0, 1), (1, 1), (2, 1), (3, 1), (4, 1)] := by kernel_rfl
theorem fl62 : fieldsAt Tryz.prog 62 = some [(0, 1), (1, 1), (2, 1), (3, 1)] := by kernel_rfl
theorem fl93 : fieldsAt Tryz.prog 93 = some [(0, 1), (1, 1), (2, 1), (3, 1), (4, 1), (5, 1), (6, 1), (7, 1), (8, 1), (9, 1), (10, 1), (11, 1)] := by kernel_rfl
theorem fl129 : fieldsAt Tryz.prog 129 = some [(0, 1), (1, 1), (2, 1), (3, 1)] := by kernel_rfl
theorem fl139 : fieldsAt Tryz.prog 139 = some [(0, 1)] := by kernel_rfl
theorem fl141 : fieldsAt Tryz.prog 141 = some [(0, 1), (1, 1), (2, 1)] := by kernel_rfl
theorem fl152 : fieldsAt Tryz.prog 152 = some [(0, 1)] := by kernel_rfl
theorem fl155 : fieldsAt Tryz.prog 155 = some [(0, 1), (1, 1)] := by kernel_rfl
theorem fl182 : fieldsAt Tryz.prog 182 = some [(0, 1), (1, 1)] := by kernel_rfl
theorem fl185 : fieldsAt Tryz.prog 185 = some [(0, 1), (1, 1)] := by kernel_rfl
theorem fl188 : fieldsAt Tryz.prog 188 = some [(0, 1), (1, 1), (2, 1)] := by kernel_rfl
theorem fl201 : fieldsAt Tryz.prog 201 = some [(0, 1), (1, 1), (2, 1)] := by kernel_rfl
theorem fl217 : fieldsAt Tryz.prog 217 = some [(0, 1), (1, 1)] := by kernel_rfl
theorem fl227 : fieldsAt Tryz.prog 227 = some [(0, 1), (1, 1)] := by kernel_rfl
theorem fl232 : fieldsAt Tryz.prog 232 = some [(0, 1), (1, 1), (2, 1)] := by kernel_rfl
theorem fl256 : fieldsAt Tryz.prog 256 = some [(0, 1), (1, 1)] := by kernel_rfl
theorem fo45_2 : fieldOf Tryz.prog 45 2 = some (2, 3) := by kernel_rfl
theorem fo45_3 : fieldOf Tryz.prog 45 3 = some (3, 3) := by kernel_rfl
theorem fo54_0 : fieldOf Tryz.prog 54 0 = some (0, 3) := by kernel_rfl
theorem fo54_1 : fieldOf Tryz.prog 54 1 = some (1, 3) := by kernel_rfl
theorem fo54_2 : fieldOf Tryz.prog 54 2 = some (2, 3) := by kernel_rfl
theorem fo54_3 : fieldOf Tryz.prog 54 3 = some (3, 3) := by kernel_rfl
theorem fo54_4 : fieldOf Tryz.prog 54 4 = some (4, 3) := by kernel_rfl
theorem fo62_0 : fieldOf Tryz.prog 62 0 = some (0, 3) := by kernel_rfl
theorem fo62_1 : fieldOf Tryz.prog 62 1 = some (1, 3) := by kernel_rfl
theorem fo62_2 : fieldOf Tryz.prog 62 2 = some (2, 3) := by kernel_rfl
theorem fo62_3 : fieldOf Tryz.prog 62 3 = some (3, 3) := by kernel_rfl
theorem fo93_0 : fieldOf Tryz.prog 93 0 = some (0, 3) := by kernel_rfl
theorem fo93_1 : fieldOf Tryz.prog 93 1 = some (1, 3) := by kernel_rfl
theorem fo93_2 : fieldOf Tryz.prog 93 2 = some (2, 3) := by kernel_rfl
theorem fo93_3 : fieldOf Tryz.prog 93 3 = some (3, 3) := by kernel_rfl
theorem fo93_4 : fieldOf Tryz.prog 93 4 = some (4, 3) := by kernel_rfl
theorem fo93_5 : fieldOf Tryz.prog 93 5 = some (5, 4) := by kernel_rfl
theorem fo93_6 : fieldOf Tryz.prog 93 6 = some (6, 3) := by kernel_rfl
theorem fo93_7 : fieldOf Tryz.prog 93 7 = some (7, 3) := by kernel_rfl
theorem fo93_8 : fieldOf Tryz.prog 93 8 = some (8, 3) := by kernel_rfl
theorem fo93_9 : fieldOf Tryz.prog 93 9 = some (9, 3) := by kernel_rfl
theorem fo93_10 : fieldOf Tryz.prog 93 10 = some (10, 3) := by kernel_rfl
theorem fo93_11 : fieldOf Tryz.prog 93 11 = some (11, 3) := by kernel_rfl
theorem fo114_0 : fieldOf Tryz.prog 114 0 = some (0, 3) := by kernel_rfl
theorem fo114_1 : fieldOf Tryz.prog 114 1 = some (1, 3) := by kernel_rfl
theorem fo114_2 : fieldOf Tryz.prog 114 2 = some (2, 36) := by kernel_rfl
theorem fo129_0 : fieldOf Tryz.prog 129 0 = some (0, 126) := by kernel_rfl
theorem fo129_1 : fieldOf Tryz.prog 129 1 = some (1, 124) := by kernel_rfl
theorem fo129_2 : fieldOf Tryz.prog 129 2 = some (2, 127) := by kernel_rfl
theorem fo129_3 : fieldOf Tryz.prog 129 3 = some (3, 30) := by kernel_rfl
theorem fo139_0 : fieldOf Tryz.prog 139 0 = some (0, 65) := by kernel_rfl
theorem fo141_0 : fieldOf Tryz.prog 141 0 = some (0, 137) := by kernel_rfl
theorem fo141_1 : fieldOf Tryz.prog 141 1 = some (1, 137) := by kernel_rfl
theorem fo141_2 : fieldOf Tryz.prog 141 2 = some (2, 137) := by kernel_rfl
theorem fo152_0 : fieldOf Tryz.prog 152 0 = some (0, 24) := by kernel_rfl
theorem fo155_0 : fieldOf Tryz.prog 155 0 = some (0, 32) := by kernel_rfl
theorem fo155_1 : fieldOf Tryz.prog 155 1 = some (1, 32) := by kernel_rfl
theorem fo182_0 : fieldOf Tryz.prog 182 0 = some (0, 24) := by kernel_rfl
theorem fo182_1 : fieldOf Tryz.prog 182 1 = some (1, 3) := by kernel_rfl
theorem fo185_0 : fieldOf Tryz.prog 185 0 = some (0, 24) := by kernel_rfl
theorem fo185_1 : fieldOf Tryz.prog 185 1 = some (1, 3) := by kernel_rfl
theorem fo188_0 : fieldOf Tryz.prog 188 0 = some (0, 24) := by kernel_rfl
theorem fo188_1 : fieldOf Tryz.prog 188 1 = some (1, 3) := by kernel_rfl
theorem fo188_2 : fieldOf Tryz.prog 188 2 = some (2, 3) := by kernel_rfl
theorem fo201_0 : fieldOf Tryz.prog 201 0 = some (0, 3) := by kernel_rfl
theorem fo201_1 : fieldOf Tryz.prog 201 1 = some (1, 3) := by kernel_rfl
theorem fo201_2 : fieldOf Tryz.prog 201 2 = some (2, 3) := by kernel_rfl
theorem fo217_0 : fieldOf Tryz.prog 217 0 = some (0, 32) := by kernel_rfl
theorem fo217_1 : fieldOf Tryz.prog 217 1 = some (1, 4) := by kernel_rfl
theorem fo227_0 : fieldOf Tryz.prog 227 0 = some (0, 24) := by kernel_rfl
theorem fo227_1 : fieldOf Tryz.prog 227 1 = some (1, 32) := by kernel_rfl
theorem fo232_0 : fieldOf Tryz.prog 232 0 = some (0, 5) := by kernel_rfl
theorem fo232_1 : fieldOf Tryz.prog 232 1 = some (1, 3) := by kernel_rfl
theorem fo232_2 : fieldOf Tryz.prog 232 2 = some (2, 3) := by kernel_rfl
theorem fo256_0 : fieldOf Tryz.prog 256 0 = some (0, 24) := by kernel_rfl
theorem fo256_1 : fieldOf Tryz.prog 256 1 = some (1, 3) := by kernel_rfl
theorem mt126 : MapT Tryz.prog 126 9 217 (.string) := ⟨by kernel_rfl, by kernel_rfl⟩
theorem mt127 : MapT Tryz.prog 127 9 32 (.string) := ⟨by kernel_rfl, by kernel_rfl⟩
theorem of3 (c : AV) (cs : List AV) (K : AV → Prop) : ofCells Tryz.prog 3 (c :: cs) K = K (val c) := ofCells_one (by kernel_rfl) c cs K
theorem of4 (c : AV) (cs : List AV) (K : AV → Prop) : ofCells Tryz.prog 4 (c :: cs) K = K (val c) := ofCells_one (by kernel_rfl) c cs K
theorem of5 (c : AV) (cs : List AV) (K : AV → Prop) : ofCells Tryz.prog 5 (c :: cs) K = K (val c) := ofCells_one (by kernel_rfl) c cs K
theorem of9 (c : AV) (cs : List AV) (K : AV → Prop) : ofCells Tryz.prog 9 (c :: cs) K = K (val c) := ofCells_one (by kernel_rfl) c cs K
theorem of24 (c : AV) (cs : List AV) (K : AV → Prop) : ofCells Tryz.prog 24 (c :: cs) K = K (val c) := ofCells_one (by kernel_rfl) c cs K
theorem of26 (c : AV) (cs : List AV) (K : AV → Prop) : ofCells Tryz.prog 26 (c :: cs) K = K (val c) := ofCells_one (by kernel_rfl) c cs K
theorem of30 (c : AV) (cs : List AV) (K : AV → Prop) : ofCells Tryz.prog 30 (c :: cs) K = K (val c) := ofCells_one (by kernel_rfl) c cs K
theorem of32 (c : AV) (cs : List AV) (K : AV → Prop) : ofCells Tryz.prog 32 (c :: cs) K = K (val c) := ofCells_one (by kernel_rfl) c cs K
theorem of36 (c : AV) (cs : List AV) (K : AV → Prop) : ofCells Tryz.prog 36 (c :: cs) K = K (val c) := ofCells_one (by kernel_rfl) c cs K
theorem of45 (cs : List AV) (K : AV → Prop) : ofCells Tryz.prog 45 cs K = (4 ≤ cs.length ∧ K (.agg (cs.take 4))) := ofCells_agg (by kernel_rfl) cs K
theorem of54 (cs : List AV) (K : AV → Prop) : ofCells Tryz.prog 54 cs K = (5 ≤ cs.length ∧ K (.agg (cs.take 5))) := ofCells_agg (by kernel_rfl) cs K
theorem of62 (cs : List AV) (K : AV → Prop) : ofCells Tryz.prog 62 cs K = (4 ≤ cs.length ∧ K (.agg (cs.take 4))) := ofCells_agg (by kernel_rfl) cs K
theorem of65 (c : AV) (cs : List AV) (K : AV → Prop) : ofCells Tryz.prog 65 (c :: cs) K = K (val c) := ofCells_one (by kernel_rfl) c cs K
theorem of93 (cs : List AV) (K : AV → Prop) : ofCells Tryz.prog 93 cs K = (12 ≤ cs.length ∧ K (.agg (cs.take 12))) := ofCells_agg (by kernel_rfl) cs K
theorem of114 (cs : List AV) (K : AV → Prop) : ofCells Tryz.prog 114 cs K = (3 ≤ cs.length ∧ K (.agg (cs.take 3))) := ofCells_agg (by kernel_rfl) cs K
theorem of124 (c : AV) (cs : List AV) (K : AV → Prop) : ofCells Tryz.prog 124 (c :: cs) K = K (val c) := ofCells_one (by kernel_rfl) c cs K
theorem of126 (c : AV) (cs : List AV) (K : AV → Prop) : ofCells Tryz.prog 126 (c :: cs) K = K (val c) := ofCells_one (by kernel_rfl) c cs K
theorem of127 (c : AV) (cs : List AV) (K : AV → Prop) : ofCells Tryz.prog 127 (c :: cs) K = K (val c) := ofCells_one (by kernel_rfl) c cs K
theorem of137 (c : AV) (cs : List AV) (K : AV → Prop) : ofCells Tryz.prog 137 (c :: cs) K = K (val c) := ofCells_one (by kernel_rfl) c cs K
theorem of152 (cs : List AV) (K : AV → Prop) : ofCells Tryz.prog 152 cs K = (1 ≤ cs.length ∧ K (.agg (cs.take 1))) := ofCells_agg (by kernel_rfl) cs K
theorem of155 (cs : List AV) (K : AV → Prop) : ofCells Tryz.prog 155 cs K = (2 ≤ cs.length ∧ K (.agg (cs.take 2))) := ofCells_agg (by kernel_rfl) cs K
theorem of185 (cs : List AV) (K : AV → Prop) : ofCells Tryz.prog 185 cs K = (2 ≤ cs.length ∧ K (.agg (cs.take 2))) := ofCells_agg (by kernel_rfl) cs K
theorem of188 (cs : List AV) (K : AV → Prop) : ofCells Tryz.prog 188 cs K = (3 ≤ cs.length ∧ K (.agg (cs.take 3))) := ofCells_agg (by kernel_rfl) cs K
theorem of201 (cs : List AV) (K : AV → Prop) : ofCells Tryz.prog 201 cs K = (3 ≤ cs.length ∧ K (.agg (cs.take 3))) := ofCells_agg (by kernel_rfl) cs K
theorem of217 (cs : List AV) (K : AV → Prop) : ofCells Tryz.prog 217 cs K = (2 ≤ cs.length ∧ K (.agg (cs.take 2))) := ofCells_agg (by kernel_rfl) cs K
theorem of227 (cs : List AV) (K : AV → Prop) : ofCells Tryz.prog 227 cs K = (2 ≤ cs.length ∧ K (.agg (cs.take 2))) := ofCells_agg (by kernel_rfl) cs K
theorem of232 (cs : List AV) (K : AV → Prop) : ofCells Tryz.prog 232 cs K = (3 ≤ cs.length ∧ K (.agg (cs.take 3))) := ofCells_agg (by kernel_rfl) cs K
theorem of256 (cs : List AV) (K : AV → Prop) : ofCells Tryz.prog 256 cs K = (2 ≤ cs.length ∧ K (.agg (cs.take 2))) := ofCells_agg (by kernel_rfl) cs K
theorem sz3 : szT Tryz.prog 3 = some 1 := by kernel_rfl
theorem sz30 : szT Tryz.prog 30 = some 1 := by kernel_rfl
theorem sz45 : szT Tryz.prog 45 = some 4 := by kernel_rfl
theorem sz54 : szT Tryz.prog 54 = some 5 := by kernel_rfl
theorem sz62 : szT Tryz.prog 62 = some 4 := by kernel_rfl
theorem sz65 : szT Tryz.prog 65 = some 1 := by kernel_rfl
theorem sz93 : szT Tryz.prog 93 = some 12 := by kernel_rfl
theorem sz114 : szT Tryz.prog 114 = some 3 := by kernel_rfl
theorem sz137 : szT Tryz.prog 137 = some 1 := by kernel_rfl
theorem sz152 : szT Tryz.prog 152 = some 1 := by kernel_rfl
theorem sz155 : szT Tryz.prog 155 = some 2 := by kernel_rfl
theorem sz185 : szT Tryz.prog 185 = some 2 := by kernel_rfl
theorem sz188 : szT Tryz.prog 188 = some 3 := by kernel_rfl
theorem sz201 : szT Tryz.prog 201 = some 3 := by kernel_rfl
theorem sz217 : szT Tryz.prog 217 = some 2 := by kernel_rfl
theorem sz227 : szT Tryz.prog 227 = some 2 := by kernel_rfl
theorem sz232 : szT Tryz.prog 232 = some 3 := by kernel_rfl
theorem sz256 : szT Tryz.prog 256 = some 2 := by kernel_rfl
theorem z3 : (Tryz.prog.info? 3).bind (·.zero) = some (.int .i64 0) := by kernel_rfl
theorem z5 : (Tryz.prog.info? 5).bind (·.zero) = some (.int .u8 0) := by kernel_rfl
theorem z32 : (Tryz.prog.info? 32).bind (·.zero) = some (.slice none 0 0) := by kernel_rfl
theorem z45 : (Tryz.prog.info? 45).bind (·.zero) = some (.agg #[.int .i64 0, .int .i64 0, .int .i64 0, .int .i64 0]) := by kernel_rfl
theorem z54 : (Tryz.prog.info? 54).bind (·.zero) = some (.agg #[.int .i64 0, .int .i64 0, .int .i64 0, .int .i64 0, .int .i64 0]) := by kernel_rfl
theorem z62 : (Tryz.prog.info? 62).bind (·.zero) = some (.agg #[.int .i64 0, .int .i64 0, .int .i64 0, .int .i64 0]) := by kernel_rfl
theorem z93 : (Tryz.prog.info? 93).bind (·.zero) = some (.agg #[.int .i64 0, .int .i64 0, .int .i64 0, .int .i64 0, .int .i64 0, .bool false, .int .i64 0, .int .i64 0, .int .i64 0, .int .i64 0, .int .i64 0, .int .i64 0]) := by kernel_rfl
theorem z114 : (Tryz.prog.info? 114).bind (·.zero) = some (.agg #[.int .i64 0, .int .i64 0, .slice none 0 0]) := by kernel_rfl
theorem z129 : (Tryz.prog.info? 129).bind (·.zero) = some (.agg #[.map none, .pointer none, .map none, .int .i64 0]) := by kernel_rfl
theorem z139 : (Tryz.prog.info? 139).bind (·.zero) = some (.agg #[.slice none 0 0]) := by kernel_rfl
theorem z141 : (Tryz.prog.info? 141).bind (·.zero) = some (.agg #[.pointer none, .pointer none, .pointer none]) := by kernel_rfl
theorem z152 : (Tryz.prog.info? 152).bind (·.zero) = some (.agg #[.pointer none]) := by kernel_rfl
theorem z155 : (Tryz.prog.info? 155).bind (·.zero) = some (.agg #[.slice none 0 0, .slice none 0 0]) := by kernel_rfl
theorem z182 : (Tryz.prog.info? 182).bind (·.zero) = some (.agg #[.pointer none, .int .i64 0]) := by kernel_rfl
theorem z185 : (Tryz.prog.info? 185).bind (·.zero) = some (.agg #[.pointer none, .int .i64 0]) := by kernel_rfl
theorem z188 : (Tryz.prog.info? 188).bind (·.zero) = some (.agg #[.pointer none, .int .i64 0, .int .i64 0]) := by kernel_rfl
theorem z201 : (Tryz.prog.info? 201).bind (·.zero) = some (.agg #[.int .i64 0, .int .i64 0, .int .i64 0]) := by kernel_rfl
theorem z217 : (Tryz.prog.info? 217).bind (·.zero) = some (.agg #[.slice none 0 0, .bool false]) := by kernel_rfl
theorem z227 : (Tryz.prog.info? 227).bind (·.zero) = some (.agg #[.pointer none, .slice none 0 0]) := by kernel_rfl
theorem z232 : (Tryz.prog.info? 232).bind (·.zero) = some (.agg #[.int .u8 0, .int .i64 0, .int .i64 0]) := by kernel_rfl
theorem z256 : (Tryz.prog.info? 256).bind (·.zero) = some (.agg #[.pointer none, .int .i64 0]) := by kernel_rfl
theorem zr3 : ((Tryz.prog.info? 3).any fun i => i.zero.isSome) = true := by kernel_rfl
theorem zr5 : ((Tryz.prog.info? 5).any fun i => i.zero.isSome) = true := by kernel_rfl
theorem zr9 : ((Tryz.prog.info? 9).any fun i => i.zero.isSome) = true := by kernel_rfl
theorem zr32 : ((Tryz.prog.info? 32).any fun i => i.zero.isSome) = true := by kernel_rfl
theorem zr45 : ((Tryz.prog.info? 45).any fun i => i.zero.isSome) = true := by kernel_rfl
theorem zr62 : ((Tryz.prog.info? 62).any fun i => i.zero.isSome) = true := by kernel_rfl
theorem zr93 : ((Tryz.prog.info? 93).any fun i => i.zero.isSome) = true := by kernel_rfl
theorem zr155 : ((Tryz.prog.info? 155).any fun i => i.zero.isSome) = true := by kernel_rfl
theorem al45 (K : AV → Prop) : awpAlloc ((Tryz.prog.info? 45).bind (·.zero)) K = K (.box [.v (.int .i64 0), .v (.int .i64 0), .v (.int .i64 0), .v (.int .i64 0)]) := alloc_eq z45 rfl rfl K
theorem al54 (K : AV → Prop) : awpAlloc ((Tryz.prog.info? 54).bind (·.zero)) K = K (.box [.v (.int .i64 0), .v (.int .i64 0), .v (.int .i64 0), .v (.int .i64 0), .v (.int .i64 0)]) := alloc_eq z54 rfl rfl K
theorem al62 (K : AV → Prop) : awpAlloc ((Tryz.prog.info? 62).bind (·.zero)) K = K (.box [.v (.int .i64 0), .v (.int .i64 0), .v (.int .i64 0), .v (.int .i64 0)]) := alloc_eq z62 rfl rfl K
theorem al93 (K : AV → Prop) : awpAlloc ((Tryz.prog.info? 93).bind (·.zero)) K = K (.box [.v (.int .i64 0), .v (.int .i64 0), .v (.int .i64 0), .v (.int .i64 0), .v (.int .i64 0), .v (.bool false), .v (.int .i64 0), .v (.int .i64 0), .v (.int .i64 0), .v (.int .i64 0), .v (.int .i64 0), .v (.int .i64 0)]) := alloc_eq z93 rfl rfl K
theorem al114 (K : AV → Prop) : awpAlloc ((Tryz.prog.info? 114).bind (·.zero)) K = K (.box [.v (.int .i64 0), .v (.int .i64 0), .v (.slice none 0 0)]) := alloc_eq z114 rfl rfl K
theorem al152 (K : AV → Prop) : awpAlloc ((Tryz.prog.info? 152).bind (·.zero)) K = K (.box [.v (.pointer none)]) := alloc_eq z152 rfl rfl K
theorem al155 (K : AV → Prop) : awpAlloc ((Tryz.prog.info? 155).bind (·.zero)) K = K (.box [.v (.slice none 0 0), .v (.slice none 0 0)]) := alloc_eq z155 rfl rfl K
theorem al185 (K : AV → Prop) : awpAlloc ((Tryz.prog.info? 185).bind (·.zero)) K = K (.box [.v (.pointer none), .v (.int .i64 0)]) := alloc_eq z185 rfl rfl K
theorem al188 (K : AV → Prop) : awpAlloc ((Tryz.prog.info? 188).bind (·.zero)) K = K (.box [.v (.pointer none), .v (.int .i64 0), .v (.int .i64 0)]) := alloc_eq z188 rfl rfl K
theorem al201 (K : AV → Prop) : awpAlloc ((Tryz.prog.info? 201).bind (·.zero)) K = K (.box [.v (.int .i64 0), .v (.int .i64 0), .v (.int .i64 0)]) := alloc_eq z201 rfl rfl K
theorem al217 (K : AV → Prop) : awpAlloc ((Tryz.prog.info? 217).bind (·.zero)) K = K (.box [.v (.slice none 0 0), .v (.bool false)]) := alloc_eq z217 rfl rfl K
theorem al232 (K : AV → Prop) : awpAlloc ((Tryz.prog.info? 232).bind (·.zero)) K = K (.box [.v (.int .u8 0), .v (.int .i64 0), .v (.int .i64 0)]) := alloc_eq z232 rfl rfl K
theorem al256 (K : AV → Prop) : awpAlloc ((Tryz.prog.info? 256).bind (·.zero)) K = K (.box [.v (.pointer none), .v (.int .i64 0)]) := alloc_eq z256 rfl rfl K
theorem bd45 (parts : List (Nat × AV)) (K : AV → Prop) : awpBuild Tryz.prog 45 parts K = bldE [(0, 1), (1, 1), (2, 1), (3, 1)] [.v (.int .i64 0), .v (.int .i64 0), .v (.int .i64 0), .v (.int .i64 0)] K parts := build_eq fl45 z45 rfl parts K
theorem bd54 (parts : List (Nat × AV)) (K : AV → Prop) : awpBuild Tryz.prog 54 parts K = bldE [(0, 1), (1, 1), (2, 1), (3, 1), (4, 1)] [.v (.int .i64 0), .v (.int .i64 0), .v (.int .i64 0), .v (.int .i64 0), .v (.int .i64 0)] K parts := build_eq fl54 z54 rfl parts K
theorem bd62 (parts : List (Nat × AV)) (K : AV → Prop) : awpBuild Tryz.prog 62 parts K = bldE [(0, 1), (1, 1), (2, 1), (3, 1)] [.v (.int .i64 0), .v (.int .i64 0), .v (.int .i64 0), .v (.int .i64 0)] K parts := build_eq fl62 z62 rfl parts K
theorem bd93 (parts : List (Nat × AV)) (K : AV → Prop) : awpBuild Tryz.prog 93 parts K = bldE [(0, 1), (1, 1), (2, 1), (3, 1), (4, 1), (5, 1), (6, 1), (7, 1), (8, 1), (9, 1), (10, 1), (11, 1)] [.v (.int .i64 0), .v (.int .i64 0), .v (.int .i64 0), .v (.int .i64 0), .v (.int .i64 0), .v (.bool false), .v (.int .i64 0), .v (.int .i64 0), .v (.int .i64 0), .v (.int .i64 0), .v (.int .i64 0), .v (.int .i64 0)] K parts := build_eq fl93 z93 rfl parts K
theorem bd139 (parts : List (Nat × AV)) (K : AV → Prop) : awpBuild Tryz.prog 139 parts K = bldE [(0, 1)] [.v (.slice none 0 0)] K parts := build_eq fl139 z139 rfl parts K
theorem bd141 (parts : List (Nat × AV)) (K : AV → Prop) : awpBuild Tryz.prog 141 parts K = bldE [(0, 1), (1, 1), (2, 1)] [.v (.pointer none), .v (.pointer none), .v (.pointer none)] K parts := build_eq fl141 z141 rfl parts K
theorem bd152 (parts : List (Nat × AV)) (K : AV → Prop) : awpBuild Tryz.prog 152 parts K = bldE [(0, 1)] [.v (.pointer none)] K parts := build_eq fl152 z152 rfl parts K
theorem bd155 (parts : List (Nat × AV)) (K : AV → Prop) : awpBuild Tryz.prog 155 parts K = bldE [(0, 1), (1, 1)] [.v (.slice none 0 0), .v (.slice none 0 0)] K parts := build_eq fl155 z155 rfl parts K
theorem bd182 (parts : List (Nat × AV)) (K : AV → Prop) : awpBuild Tryz.prog 182 parts K = bldE [(0, 1), (1, 1)] [.v (.pointer none), .v (.int .i64 0)] K parts := build_eq fl182 z182 rfl parts K
theorem bd185 (parts : List (Nat × AV)) (K : AV → Prop) : awpBuild Tryz.prog 185 parts K = bldE [(0, 1), (1, 1)] [.v (.pointer none), .v (.int .i64 0)] K parts := build_eq fl185 z185 rfl parts K
theorem bd188 (parts : List (Nat × AV)) (K : AV → Prop) : awpBuild Tryz.prog 188 parts K = bldE [(0, 1), (1, 1), (2, 1)] [.v (.pointer none), .v (.int .i64 0), .v (.int .i64 0)] K parts := build_eq fl188 z188 rfl parts K
theorem bd201 (parts : List (Nat × AV)) (K : AV → Prop) : awpBuild Tryz.prog 201 parts K = bldE [(0, 1), (1, 1), (2, 1)] [.v (.int .i64 0), .v (.int .i64 0), .v (.int .i64 0)] K parts := build_eq fl201 z201 rfl parts K
theorem bd232 (parts : List (Nat × AV)) (K : AV → Prop) : awpBuild Tryz.prog 232 parts K = bldE [(0, 1), (1, 1), (2, 1)] [.v (.int .u8 0), .v (.int .i64 0), .v (.int .i64 0)] K parts := build_eq fl232 z232 rfl parts K
theorem bd256 (parts : List (Nat × AV)) (K : AV → Prop) : awpBuild Tryz.prog 256 parts K = bldE [(0, 1), (1, 1)] [.v (.pointer none), .v (.int .i64 0)] K parts := build_eq fl256 z256 rfl parts K
theorem q3 : type_of% (And.intro (And.intro (And.intro Tryz.underlying22 es22) (And.intro as22 (And.intro of26 cv26_3))) (And.intro (And.intro Tryz.underlying28 (And.intro cv3_5 es32)) (And.intro (fun src => cvX_str (src := src) Tryz.underlying9) (And.intro Tryz.underlying32 Tryz.results3)))) := (And.intro (And.intro (And.intro Tryz.underlying22 es22) (And.intro as22 (And.intro of26 cv26_3))) (And.intro (And.intro Tryz.underlying28 (And.intro cv3_5 es32)) (And.intro (fun src => cvX_str (src := src) Tryz.underlying9) (And.intro Tryz.underlying32 Tryz.results3))))
theorem q11 : type_of% (And.intro (And.intro (And.intro Tryz.underlying112 (And.intro es112 as112)) (And.intro of114 (And.intro al114 sz114))) (And.intro (And.intro fo114_0 (And.intro of3 fo114_2)) (And.intro of36 (And.intro fo114_1 Tryz.results11)))) := (And.intro (And.intro (And.intro Tryz.underlying112 (And.intro es112 as112)) (And.intro of114 (And.intro al114 sz114))) (And.intro (And.intro fo114_0 (And.intro of3 fo114_2)) (And.intro of36 (And.intro fo114_1 Tryz.results11))))
theorem q36 : type_of% (And.intro (And.intro (And.intro Tryz.underlying55 (And.intro bd152 al152)) (And.intro (And.intro sz152 es55) (And.intro as55 of62))) (And.intro (And.intro (And.intro al62 sz62) (And.intro of152 fo54_0)) (And.intro (And.intro sz3 fo54_4) (And.intro of54 Tryz.results36)))) := (And.intro (And.intro (And.intro Tryz.underlying55 (And.intro bd152 al152)) (And.intro (And.intro sz152 es55) (And.intro as55 of62))) (And.intro (And.intro (And.intro al62 sz62) (And.intro of152 fo54_0)) (And.intro (And.intro sz3 fo54_4) (And.intro of54 Tryz.results36))))
theorem q37 : type_of% (And.intro (And.intro (And.intro (And.intro of54 al54) (And.intro bd152 al152)) (And.intro (And.intro sz152 of152) (And.intro sz54 bd54))) (And.intro (And.intro (And.intro fo54_4 of3) (And.intro Tryz.underlying55 al62)) (And.intro (And.intro sz62 of62) (And.intro es55 (And.intro as55 Tryz.results37))))) := (And.intro (And.intro (And.intro (And.intro of54 al54) (And.intro bd152 al152)) (And.intro (And.intro sz152 of152) (And.intro sz54 bd54))) (And.intro (And.intro (And.intro fo54_4 of3) (And.intro Tryz.underlying55 al62)) (And.intro (And.intro sz62 of62) (And.intro es55 (And.intro as55 Tryz.results37)))))
theorem q38 : type_of% (And.intro (And.intro Tryz.underlying55 es55) (And.intro as55 (And.intro of62 Tryz.results38))) := (And.intro (And.intro Tryz.underlying55 es55) (And.intro as55 (And.intro of62 Tryz.results38)))
theorem q42 : type_of% (And.intro (And.intro (And.intro Tryz.underlying55 es55) (And.intro as55 (And.intro of62 fo54_1))) (And.intro (And.intro of3 fo54_2) (And.intro fo54_3 (And.intro bd54 Tryz.results42)))) := (And.intro (And.intro (And.intro Tryz.underlying55 es55) (And.intro as55 (And.intro of62 fo54_1))) (And.intro (And.intro of3 fo54_2) (And.intro fo54_3 (And.intro bd54 Tryz.results42))))
theorem q43 : type_of% (And.intro (And.intro al54 (And.intro sz54 Tryz.underlying55)) (And.intro bd152 (And.intro of62 Tryz.results43))) := (And.intro (And.intro al54 (And.intro sz54 Tryz.underlying55)) (And.intro bd152 (And.intro of62 Tryz.results43)))
theorem q44 : type_of% (And.intro (And.intro al54 sz54) (And.intro Tryz.underlying55 (And.intro of62 Tryz.results44))) := (And.intro (And.intro al54 sz54) (And.intro Tryz.underlying55 (And.intro of62 Tryz.results44)))
theorem q45 : type_of% (And.intro (And.intro (And.intro (And.intro of54 al54) (And.intro es28 bd155)) (And.intro (And.intro sz54 fo54_0) (And.intro of3 fo54_4))) (And.intro (And.intro (And.intro bd54 al62) (And.intro sz62 of62)) (And.intro (And.intro es55 (fun tx => append_own (tx := tx) ei55)) (And.intro (fun tx => append_nil (tx := tx) ei55) Tryz.results45)))) := (And.intro (And.intro (And.intro (And.intro of54 al54) (And.intro es28 bd155)) (And.intro (And.intro sz54 fo54_0) (And.intro of3 fo54_4))) (And.intro (And.intro (And.intro bd54 al62) (And.intro sz62 of62)) (And.intro (And.intro es55 (fun tx => append_own (tx := tx) ei55)) (And.intro (fun tx => append_nil (tx := tx) ei55) Tryz.results45))))
theorem q48 : type_of% (And.intro (And.intro fo62_1 of3) (And.intro fo62_2 (And.intro fo62_3 Tryz.results48))) := (And.intro (And.intro fo62_1 of3) (And.intro fo62_2 (And.intro fo62_3 Tryz.results48)))
theorem q49 : type_of% (And.intro (And.intro fo62_1 of3) (And.intro fo62_2 (And.intro fo62_3 Tryz.results49))) := (And.intro (And.intro fo62_1 of3) (And.intro fo62_2 (And.intro fo62_3 Tryz.results49)))
theorem q54 : type_of% Tryz.results54 := Tryz.results54
theorem q55 : type_of% (And.intro (And.intro (And.intro bd93 es84) (And.intro bd45 (And.intro es36 al93))) (And.intro (And.intro sz93 fo93_7) (And.intro of3 (And.intro fo93_8 Tryz.results55)))) := (And.intro (And.intro (And.intro bd93 es84) (And.intro bd45 (And.intro es36 al93))) (And.intro (And.intro sz93 fo93_7) (And.intro of3 (And.intro fo93_8 Tryz.results55))))
theorem q56 : type_of% (And.intro (And.intro (And.intro Tryz.underlying84 es84) (And.intro as84 of93)) (And.intro (And.intro al93 sz93) (And.intro fo93_0 (And.intro sz3 Tryz.results56)))) := (And.intro (And.intro (And.intro Tryz.underlying84 es84) (And.intro as84 of93)) (And.intro (And.intro al93 sz93) (And.intro fo93_0 (And.intro sz3 Tryz.results56))))
theorem q57 : type_of% (And.intro bd182 (And.intro bd54 Tryz.results57)) := (And.intro bd182 (And.intro bd54 Tryz.results57))
theorem q59 : type_of% (And.intro (And.intro bd188 (And.intro al188 sz188)) (And.intro of188 (And.intro bd54 Tryz.results59))) := (And.intro (And.intro bd188 (And.intro al188 sz188)) (And.intro of188 (And.intro bd54 Tryz.results59)))
theorem q65 : type_of% (And.intro (And.intro fo129_3 (And.intro of30 fo129_1)) (And.intro (And.intro of124 fo129_0) (And.intro of126 Tryz.results65))) := (And.intro (And.intro fo129_3 (And.intro of30 fo129_1)) (And.intro (And.intro of124 fo129_0) (And.intro of126 Tryz.results65)))
theorem q67 : type_of% (And.intro (And.intro fo129_0 of126) (And.intro fo129_3 (And.intro sz30 Tryz.results67))) := (And.intro (And.intro fo129_0 of126) (And.intro fo129_3 (And.intro sz30 Tryz.results67)))
theorem q71 : type_of% (And.intro bd54 Tryz.results71) := (And.intro bd54 Tryz.results71)
theorem q72 : type_of% (And.intro Tryz.underlying36 Tryz.results72) := (And.intro Tryz.underlying36 Tryz.results72)
theorem q73 : type_of% (And.intro (And.intro Tryz.underlying36 (And.intro es36 as36)) (And.intro fo45_3 (And.intro of3 Tryz.results73))) := (And.intro (And.intro Tryz.underlying36 (And.intro es36 as36)) (And.intro fo45_3 (And.intro of3 Tryz.results73)))
theorem q75 : type_of% (And.intro (And.intro (And.intro Tryz.underlying84 Tryz.underlying112) (And.intro es112 (And.intro as112 of114))) (And.intro (And.intro al114 (And.intro sz114 fo114_2)) (And.intro of36 (And.intro Tryz.underlying36 Tryz.results75)))) := (And.intro (And.intro (And.intro Tryz.underlying84 Tryz.underlying112) (And.intro es112 (And.intro as112 of114))) (And.intro (And.intro al114 (And.intro sz114 fo114_2)) (And.intro of36 (And.intro Tryz.underlying36 Tryz.results75))))
theorem q76 : type_of% Tryz.results76 := Tryz.results76
theorem q77 : type_of% (And.intro bd54 Tryz.results77) := (And.intro bd54 Tryz.results77)
theorem q78 : type_of% (And.intro (And.intro (And.intro (And.intro al54 sz54) (And.intro fo54_1 (And.intro of3 fo54_2))) (And.intro (And.intro bd188 (And.intro al188 sz188)) (And.intro Tryz.underlying36 (And.intro es36 as36)))) (And.intro (And.intro (And.intro of45 al45) (And.intro sz45 (And.intro of188 al62))) (And.intro (And.intro sz62 (And.intro of62 es55)) (And.intro (fun tx => append_own (tx := tx) ei55) (And.intro (fun tx => append_nil (tx := tx) ei55) Tryz.results78))))) := (And.intro (And.intro (And.intro (And.intro al54 sz54) (And.intro fo54_1 (And.intro of3 fo54_2))) (And.intro (And.intro bd188 (And.intro al188 sz188)) (And.intro Tryz.underlying36 (And.intro es36 as36)))) (And.intro (And.intro (And.intro of45 al45) (And.intro sz45 (And.intro of188 al62))) (And.intro (And.intro sz62 (And.intro of62 es55)) (And.intro (fun tx => append_own (tx := tx) ei55) (And.intro (fun tx => append_nil (tx := tx) ei55) Tryz.results78)))))
theorem q79 : type_of% (And.intro (And.intro (And.intro (And.intro al54 sz54) (And.intro fo54_1 (And.intro of3 fo54_2))) (And.intro (And.intro Tryz.underlying36 (And.intro es36 as36)) (And.intro fo45_2 (And.intro Tryz.underlying55 es55)))) (And.intro (And.intro (And.intro as55 (And.intro of62 al62)) (And.intro sz62 (And.intro fo45_3 fo62_2))) (And.intro (And.intro sz3 (And.intro fo62_0 bd62)) (And.intro (fun tx => append_own (tx := tx) ei55) (And.intro (fun tx => append_nil (tx := tx) ei55) Tryz.results79))))) := (And.intro (And.intro (And.intro (And.intro al54 sz54) (And.intro fo54_1 (And.intro of3 fo54_2))) (And.intro (And.intro Tryz.underlying36 (And.intro es36 as36)) (And.intro fo45_2 (And.intro Tryz.underlying55 es55)))) (And.intro (And.intro (And.intro as55 (And.intro of62 al62)) (And.intro sz62 (And.intro fo45_3 fo62_2))) (And.intro (And.intro sz3 (And.intro fo62_0 bd62)) (And.intro (fun tx => append_own (tx := tx) ei55) (And.intro (fun tx => append_nil (tx := tx) ei55) Tryz.results79)))))
theorem q102 : type_of% Tryz.results102 := Tryz.results102
theorem q106 : type_of% (And.intro (And.intro fo152_0 (And.intro of24 fo155_0)) (And.intro of32 (And.intro fo155_1 Tryz.results106))) := (And.intro (And.intro fo152_0 (And.intro of24 fo155_0)) (And.intro of32 (And.intro fo155_1 Tryz.results106)))
theorem q107 : type_of% (And.intro (And.intro (And.intro of155 al155) (And.intro fo62_0 (And.intro of3 fo62_1))) (And.intro (And.intro fo62_2 fo62_3) (And.intro es28 (And.intro sz155 Tryz.results107)))) := (And.intro (And.intro (And.intro of155 al155) (And.intro fo62_0 (And.intro of3 fo62_1))) (And.intro (And.intro fo62_2 fo62_3) (And.intro es28 (And.intro sz155 Tryz.results107))))
theorem q108 : type_of% (And.intro (And.intro (And.intro of155 al155) (And.intro fo54_0 (And.intro of3 fo54_1))) (And.intro (And.intro fo54_2 (And.intro fo54_3 fo54_4)) (And.intro es28 (And.intro sz155 Tryz.results108)))) := (And.intro (And.intro (And.intro of155 al155) (And.intro fo54_0 (And.intro of3 fo54_1))) (And.intro (And.intro fo54_2 (And.intro fo54_3 fo54_4)) (And.intro es28 (And.intro sz155 Tryz.results108))))
theorem q109 : type_of% (And.intro (And.intro (And.intro of54 (And.intro al54 of152)) (And.intro es28 (And.intro al155 sz155))) (And.intro (And.intro bd54 (And.intro sz54 of155)) (And.intro (And.intro fo54_0 of3) (And.intro fo54_4 Tryz.results109)))) := (And.intro (And.intro (And.intro of54 (And.intro al54 of152)) (And.intro es28 (And.intro al155 sz155))) (And.intro (And.intro bd54 (And.intro sz54 of155)) (And.intro (And.intro fo54_0 of3) (And.intro fo54_4 Tryz.results109))))
theorem q110 : type_of% (And.intro (And.intro (And.intro of62 al62) (And.intro of152 (And.intro es28 al155))) (And.intro (And.intro sz155 bd62) (And.intro sz62 (And.intro of155 Tryz.results110)))) := (And.intro (And.intro (And.intro of62 al62) (And.intro of152 (And.intro es28 al155))) (And.intro (And.intro sz155 bd62) (And.intro sz62 (And.intro of155 Tryz.results110))))
theorem q112 : type_of% (And.intro (And.intro (And.intro of54 al54) (And.intro of155 bd54)) (And.intro (And.intro sz54 es28) (And.intro as28 (And.intro of3 Tryz.results112)))) := (And.intro (And.intro (And.intro of54 al54) (And.intro of155 bd54)) (And.intro (And.intro sz54 es28) (And.intro as28 (And.intro of3 Tryz.results112))))
theorem q117 : type_of% (And.intro (And.intro (And.intro of155 al155) (And.intro es28 (And.intro fo62_0 of3))) (And.intro (And.intro fo62_1 fo62_2) (And.intro fo62_3 (And.intro sz155 Tryz.results117)))) := (And.intro (And.intro (And.intro of155 al155) (And.intro es28 (And.intro fo62_0 of3))) (And.intro (And.intro fo62_1 fo62_2) (And.intro fo62_3 (And.intro sz155 Tryz.results117))))
theorem q118 : type_of% (And.intro (And.intro (And.intro of155 al155) (And.intro fo54_0 (And.intro of3 es28))) (And.intro (And.intro fo54_1 (And.intro fo54_2 fo54_3)) (And.intro fo54_4 (And.intro sz155 Tryz.results118)))) := (And.intro (And.intro (And.intro of155 al155) (And.intro fo54_0 (And.intro of3 es28))) (And.intro (And.intro fo54_1 (And.intro fo54_2 fo54_3)) (And.intro fo54_4 (And.intro sz155 Tryz.results118))))
theorem q120 : type_of% (And.intro (And.intro (And.intro of54 al54) (And.intro of155 bd54)) (And.intro (And.intro sz54 es28) (And.intro as28 (And.intro of3 Tryz.results120)))) := (And.intro (And.intro (And.intro of54 al54) (And.intro of155 bd54)) (And.intro (And.intro sz54 es28) (And.intro as28 (And.intro of3 Tryz.results120))))
theorem q121 : type_of% (And.intro (And.intro of62 (And.intro al62 es28)) (And.intro bd155 (And.intro sz62 Tryz.results121))) := (And.intro (And.intro of62 (And.intro al62 es28)) (And.intro bd155 (And.intro sz62 Tryz.results121)))
theorem q127 : type_of% (And.intro (And.intro of93 al93) (And.intro bd185 (And.intro sz93 Tryz.results127))) := (And.intro (And.intro of93 al93) (And.intro bd185 (And.intro sz93 Tryz.results127)))
theorem q130 : type_of% (And.intro (And.intro of93 (And.intro al155 sz155)) (And.intro (And.intro fo155_0 of32) (And.intro fo155_1 Tryz.results130))) := (And.intro (And.intro of93 (And.intro al155 sz155)) (And.intro (And.intro fo155_0 of32) (And.intro fo155_1 Tryz.results130)))
theorem q132 : type_of% (And.intro (And.intro (And.intro Tryz.underlying36 (And.intro es36 as36)) (And.intro (And.intro of45 al45) (And.intro sz45 fo45_2))) (And.intro (And.intro of3 (And.intro fo45_3 bd62)) (And.intro (And.intro es55 (fun tx => append_own (tx := tx) ei55)) (And.intro (fun tx => append_nil (tx := tx) ei55) Tryz.results132)))) := (And.intro (And.intro (And.intro Tryz.underlying36 (And.intro es36 as36)) (And.intro (And.intro of45 al45) (And.intro sz45 fo45_2))) (And.intro (And.intro of3 (And.intro fo45_3 bd62)) (And.intro (And.intro es55 (fun tx => append_own (tx := tx) ei55)) (And.intro (fun tx => append_nil (tx := tx) ei55) Tryz.results132))))
theorem q133 : type_of% (And.intro (And.intro (And.intro Tryz.underlying55 (And.intro es55 as55)) (And.intro of62 (And.intro al62 sz62))) (And.intro (And.intro fo182_0 (And.intro of24 fo182_1)) (And.intro (And.intro of3 fo62_0) (And.intro fo62_1 Tryz.results133)))) := (And.intro (And.intro (And.intro Tryz.underlying55 (And.intro es55 as55)) (And.intro of62 (And.intro al62 sz62))) (And.intro (And.intro fo182_0 (And.intro of24 fo182_1)) (And.intro (And.intro of3 fo62_0) (And.intro fo62_1 Tryz.results133))))
theorem q135 : type_of% (And.intro (And.intro (And.intro (And.intro fo188_2 of3) (And.intro fo188_0 of24)) (And.intro (And.intro fo188_1 Tryz.underlying36) (And.intro es36 (And.intro as36 of45)))) (And.intro (And.intro (And.intro al45 sz45) (And.intro fo45_2 fo45_3)) (And.intro (And.intro bd62 es55) (And.intro (fun tx => append_own (tx := tx) ei55) (And.intro (fun tx => append_nil (tx := tx) ei55) Tryz.results135))))) := (And.intro (And.intro (And.intro (And.intro fo188_2 of3) (And.intro fo188_0 of24)) (And.intro (And.intro fo188_1 Tryz.underlying36) (And.intro es36 (And.intro as36 of45)))) (And.intro (And.intro (And.intro al45 sz45) (And.intro fo45_2 fo45_3)) (And.intro (And.intro bd62 es55) (And.intro (fun tx => append_own (tx := tx) ei55) (And.intro (fun tx => append_nil (tx := tx) ei55) Tryz.results135)))))
theorem q136 : type_of% (And.intro (And.intro (And.intro Tryz.underlying55 (And.intro es55 as55)) (And.intro (And.intro of62 al62) (And.intro sz62 fo188_2))) (And.intro (And.intro of3 (And.intro fo62_1 fo188_0)) (And.intro (And.intro of24 fo188_1) (And.intro fo62_0 Tryz.results136)))) := (And.intro (And.intro (And.intro Tryz.underlying55 (And.intro es55 as55)) (And.intro (And.intro of62 al62) (And.intro sz62 fo188_2))) (And.intro (And.intro of3 (And.intro fo62_1 fo188_0)) (And.intro (And.intro of24 fo188_1) (And.intro fo62_0 Tryz.results136))))
theorem q141 : type_of% (And.intro (And.intro (And.intro (And.intro fo129_0 of126) (And.intro Tryz.underlying262 (And.intro es262 as262))) (And.intro (And.intro of9 al217) (And.intro sz217 (And.intro fo217_1 of4)))) (And.intro (And.intro (And.intro es194 (fun tx => append_own (tx := tx) ei194)) (And.intro (fun tx => append_nil (tx := tx) ei194) (And.intro fo217_0 of32))) (And.intro (And.intro bd155 es65) (And.intro (fun tx => append_own (tx := tx) ei65) (And.intro (fun tx => append_nil (tx := tx) ei65) Tryz.results141))))) := (And.intro (And.intro (And.intro (And.intro fo129_0 of126) (And.intro Tryz.underlying262 (And.intro es262 as262))) (And.intro (And.intro of9 al217) (And.intro sz217 (And.intro fo217_1 of4)))) (And.intro (And.intro (And.intro es194 (fun tx => append_own (tx := tx) ei194)) (And.intro (fun tx => append_nil (tx := tx) ei194) (And.intro fo217_0 of32))) (And.intro (And.intro bd155 es65) (And.intro (fun tx => append_own (tx := tx) ei65) (And.intro (fun tx => append_nil (tx := tx) ei65) Tryz.results141)))))
theorem q142 : type_of% (And.intro (And.intro (And.intro fo129_0 of126) (And.intro al217 (And.intro sz217 fo217_1))) (And.intro (And.intro of4 (And.intro fo129_2 of127)) (And.intro fo217_0 (And.intro of32 Tryz.results142)))) := (And.intro (And.intro (And.intro fo129_0 of126) (And.intro al217 (And.intro sz217 fo217_1))) (And.intro (And.intro of4 (And.intro fo129_2 of127)) (And.intro fo217_0 (And.intro of32 Tryz.results142))))
theorem q148 : type_of% Tryz.results148 := Tryz.results148
theorem q149 : type_of% (And.intro (And.intro (And.intro Tryz.underlying36 es36) (And.intro as36 (And.intro fo45_2 of3))) (And.intro (And.intro fo45_3 (And.intro bd62 es55)) (And.intro (fun tx => append_own (tx := tx) ei55) (And.intro (fun tx => append_nil (tx := tx) ei55) Tryz.results149)))) := (And.intro (And.intro (And.intro Tryz.underlying36 es36) (And.intro as36 (And.intro fo45_2 of3))) (And.intro (And.intro fo45_3 (And.intro bd62 es55)) (And.intro (fun tx => append_own (tx := tx) ei55) (And.intro (fun tx => append_nil (tx := tx) ei55) Tryz.results149))))
theorem q150 : type_of% (And.intro (And.intro Tryz.underlying55 (And.intro es55 as55)) (And.intro (And.intro fo62_1 of3) (And.intro fo62_0 Tryz.results150))) := (And.intro (And.intro Tryz.underlying55 (And.intro es55 as55)) (And.intro (And.intro fo62_1 of3) (And.intro fo62_0 Tryz.results150)))
theorem q151 : type_of% (And.intro fo45_3 (And.intro of3 Tryz.results151)) := (And.intro fo45_3 (And.intro of3 Tryz.results151))
theorem q152 : type_of% Tryz.results152 := Tryz.results152
theorem q153 : type_of% Tryz.results153 := Tryz.results153
theorem q154 : type_of% (And.intro (And.intro (And.intro fo141_1 of137) (And.intro fo139_0 of65)) (And.intro (And.intro bd139 fo141_0) (And.intro sz137 (And.intro fo141_2 Tryz.results154)))) := (And.intro (And.intro (And.intro fo141_1 of137) (And.intro fo139_0 of65)) (And.intro (And.intro bd139 fo141_0) (And.intro sz137 (And.intro fo141_2 Tryz.results154))))
theorem q155 : type_of% (And.intro (And.intro (And.intro fo141_0 of137) (And.intro fo139_0 of65)) (And.intro (And.intro bd139 fo141_1) (And.intro sz137 (And.intro fo141_2 Tryz.results155)))) := (And.intro (And.intro (And.intro fo141_0 of137) (And.intro fo139_0 of65)) (And.intro (And.intro bd139 fo141_1) (And.intro sz137 (And.intro fo141_2 Tryz.results155))))
theorem q156 : type_of% (And.intro (And.intro (And.intro (And.intro of62 al62) (And.intro fo188_0 of24)) (And.intro (And.intro fo188_2 of3) (And.intro al54 (And.intro sz54 fo45_2)))) (And.intro (And.intro (And.intro Tryz.underlying55 bd62) (And.intro sz62 (And.intro es55 as55))) (And.intro (And.intro fo45_3 fo62_2) (And.intro sz3 (And.intro fo62_0 Tryz.results156))))) := (And.intro (And.intro (And.intro (And.intro of62 al62) (And.intro fo188_0 of24)) (And.intro (And.intro fo188_2 of3) (And.intro al54 (And.intro sz54 fo45_2)))) (And.intro (And.intro (And.intro Tryz.underlying55 bd62) (And.intro sz62 (And.intro es55 as55))) (And.intro (And.intro fo45_3 fo62_2) (And.intro sz3 (And.intro fo62_0 Tryz.results156)))))
theorem q177 : type_of% (And.intro (And.intro Tryz.underlying36 es36) (And.intro as36 (And.intro of45 Tryz.results177))) := (And.intro (And.intro Tryz.underlying36 es36) (And.intro as36 (And.intro of45 Tryz.results177)))
theorem q181 : type_of% (And.intro (And.intro of232 al232) (And.intro bd232 (And.intro sz232 Tryz.results181))) := (And.intro (And.intro of232 al232) (And.intro bd232 (And.intro sz232 Tryz.results181)))
theorem q183 : type_of% (And.intro (And.intro of232 al232) (And.intro bd232 (And.intro sz232 Tryz.results183))) := (And.intro (And.intro of232 al232) (And.intro bd232 (And.intro sz232 Tryz.results183)))
theorem q184 : type_of% (And.intro (And.intro of155 (And.intro al155 fo152_0)) (And.intro (And.intro of24 bd155) (And.intro sz155 Tryz.results184))) := (And.intro (And.intro of155 (And.intro al155 fo152_0)) (And.intro (And.intro of24 bd155) (And.intro sz155 Tryz.results184)))
theorem q185 : type_of% (And.intro (And.intro (And.intro of62 al62) (And.intro of155 bd62)) (And.intro (And.intro sz62 es28) (And.intro as28 (And.intro of3 Tryz.results185)))) := (And.intro (And.intro (And.intro of62 al62) (And.intro of155 bd62)) (And.intro (And.intro sz62 es28) (And.intro as28 (And.intro of3 Tryz.results185))))
theorem q196 : type_of% (And.intro (And.intro of155 al155) (And.intro bd155 (And.intro sz155 Tryz.results196))) := (And.intro (And.intro of155 al155) (And.intro bd155 (And.intro sz155 Tryz.results196)))
theorem q198 : type_of% (And.intro (And.intro fo155_0 of32) (And.intro fo155_1 Tryz.results198)) := (And.intro (And.intro fo155_0 of32) (And.intro fo155_1 Tryz.results198))
theorem q199 : type_of% (And.intro (And.intro (And.intro of62 al62) (And.intro of155 bd62)) (And.intro (And.intro sz62 es28) (And.intro as28 (And.intro of3 Tryz.results199)))) := (And.intro (And.intro (And.intro of62 al62) (And.intro of155 bd62)) (And.intro (And.intro sz62 es28) (And.intro as28 (And.intro of3 Tryz.results199))))
theorem q212 : type_of% (And.intro (And.intro (And.intro (And.intro of155 al155) (And.intro fo93_5 of4)) (And.intro (And.intro fo93_0 of3) (And.intro fo93_1 (And.intro es28 fo93_2)))) (And.intro (And.intro (And.intro fo93_3 fo93_4) (And.intro fo93_6 (And.intro fo93_7 fo93_8))) (And.intro (And.intro fo93_9 fo93_10) (And.intro fo93_11 (And.intro sz155 Tryz.results212))))) := (And.intro (And.intro (And.intro (And.intro of155 al155) (And.intro fo93_5 of4)) (And.intro (And.intro fo93_0 of3) (And.intro fo93_1 (And.intro es28 fo93_2)))) (And.intro (And.intro (And.intro fo93_3 fo93_4) (And.intro fo93_6 (And.intro fo93_7 fo93_8))) (And.intro (And.intro fo93_9 fo93_10) (And.intro fo93_11 (And.intro sz155 Tryz.results212)))))
theorem q219 : type_of% (And.intro (And.intro es262 (fun tx => append_own (tx := tx) ei262)) (And.intro (fun tx => append_nil (tx := tx) ei262) Tryz.results219)) := (And.intro (And.intro es262 (fun tx => append_own (tx := tx) ei262)) (And.intro (fun tx => append_nil (tx := tx) ei262) Tryz.results219))
theorem q228 : type_of% (And.intro (And.intro (And.intro Tryz.underlying84 (And.intro es84 as84)) (And.intro of93 (And.intro al93 sz93))) (And.intro (And.intro fo93_7 (And.intro of3 fo93_8)) (And.intro fo93_9 (And.intro sz3 Tryz.results228)))) := (And.intro (And.intro (And.intro Tryz.underlying84 (And.intro es84 as84)) (And.intro of93 (And.intro al93 sz93))) (And.intro (And.intro fo93_7 (And.intro of3 fo93_8)) (And.intro fo93_9 (And.intro sz3 Tryz.results228))))
theorem q234 : type_of% (And.intro Tryz.underlying28 Tryz.results234) := (And.intro Tryz.underlying28 Tryz.results234)
theorem q262 : type_of% (And.intro (And.intro (And.intro Tryz.underlying84 al93) (And.intro sz93 (And.intro of93 es84))) (And.intro (And.intro (fun tx => append_own (tx := tx) ei84) (fun tx => append_nil (tx := tx) ei84)) (And.intro fo93_2 (And.intro of3 Tryz.results262)))) := (And.intro (And.intro (And.intro Tryz.underlying84 al93) (And.intro sz93 (And.intro of93 es84))) (And.intro (And.intro (fun tx => append_own (tx := tx) ei84) (fun tx => append_nil (tx := tx) ei84)) (And.intro fo93_2 (And.intro of3 Tryz.results262))))
theorem q263 : type_of% Tryz.results263 := Tryz.results263
theorem q264 : type_of% (And.intro (And.intro of93 (And.intro fo93_6 of3)) (And.intro fo93_5 (And.intro of4 Tryz.results264))) := (And.intro (And.intro of93 (And.intro fo93_6 of3)) (And.intro fo93_5 (And.intro of4 Tryz.results264)))
theorem q274 : type_of% (And.intro (And.intro (And.intro Tryz.underlying32 es28) (And.intro (fun tx => append_own (tx := tx) ei28) (fun tx => append_nil (tx := tx) ei28))) (And.intro (And.intro es32 as32) (And.intro of5 Tryz.results274))) := (And.intro (And.intro (And.intro Tryz.underlying32 es28) (And.intro (fun tx => append_own (tx := tx) ei28) (fun tx => append_nil (tx := tx) ei28))) (And.intro (And.intro es32 as32) (And.intro of5 Tryz.results274)))
theorem q307 : type_of% (And.intro (And.intro (And.intro of93 al93) (And.intro es28 (And.intro bd155 sz93))) (And.intro (And.intro fo93_0 of3) (And.intro fo93_1 (And.intro bd93 Tryz.results307)))) := (And.intro (And.intro (And.intro of93 al93) (And.intro es28 (And.intro bd155 sz93))) (And.intro (And.intro fo93_0 of3) (And.intro fo93_1 (And.intro bd93 Tryz.results307))))
theorem q308 : type_of% (And.intro (And.intro fo93_7 of3) (And.intro fo93_8 (And.intro fo93_9 Tryz.results308))) := (And.intro (And.intro fo93_7 of3) (And.intro fo93_8 (And.intro fo93_9 Tryz.results308)))
theorem q309 : type_of% Tryz.results309 := Tryz.results309
theorem q351 : type_of% (And.intro (And.intro (And.intro of93 al93) (And.intro of155 bd93)) (And.intro (And.intro sz93 es28) (And.intro as28 (And.intro of3 Tryz.results351)))) := (And.intro (And.intro (And.intro of93 al93) (And.intro of155 bd93)) (And.intro (And.intro sz93 es28) (And.intro as28 (And.intro of3 Tryz.results351))))
end Go.Proofs.Lx
