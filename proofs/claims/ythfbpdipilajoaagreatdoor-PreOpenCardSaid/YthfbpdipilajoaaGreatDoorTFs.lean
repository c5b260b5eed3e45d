/- What the types of this program say. -/
import Derived.Test.YthfbpdipilajoaaGreatDoorV2
import Derived.Test.YthfbpdipilajoaaGreatDoorProg
import Derived.KernelRfl
/- What the types of this program say: printed. -/
set_option linter.unusedSimpArgs false
set_option linter.unusedVariables false
namespace Go.Proofs.Lx
open Go.Vm
theorem as23 : arrSz Tryz.prog 23 = none := by kernel_rfl
theorem as35 : arrSz Tryz.prog 35 = none := by kernel_rfl
theorem as40 : arrSz Tryz.prog 40 = none := by kernel_rfl
theorem as41 : arrSz Tryz.prog 41 = none := by kernel_rfl
theorem as45 : arrSz Tryz.prog 45 = none := by kernel_rfl
theorem as57 : arrSz Tryz.prog 57 = none := by kernel_rfl
theorem as70 : arrSz Tryz.prog 70 = none := by kernel_rfl
theorem as107 : arrSz Tryz.prog 107 = none := by kernel_rfl
theorem bt45 : bytesT Tryz.prog 45 = true := by kernel_rfl
theorem cv3_5 (n : Int) (s' s : Slots) (K : AV → Slots → Prop) : awpCvX Tryz.prog 3 5 (.v (.int .i64 n), s') (.v (.int .i64 n)) (.v (.int .i64 n)) s K = K (.v (.int .u8 (IntKind.u8.wrap n))) s := cvi (d := .int .i64) (by kernel_rfl) (by kernel_rfl) n s' s K
theorem cv3_233 (n : Int) (s' s : Slots) (K : AV → Slots → Prop) : awpCvX Tryz.prog 3 233 (.v (.int .i64 n), s') (.v (.int .i64 n)) (.v (.int .i64 n)) s K = K (.v (.int .u64 (IntKind.u64.wrap n))) s := cvi (d := .int .i64) (by kernel_rfl) (by kernel_rfl) n s' s K
theorem cv5_3 (n : Int) (s' s : Slots) (K : AV → Slots → Prop) : awpCvX Tryz.prog 5 3 (.v (.int .u8 n), s') (.v (.int .u8 n)) (.v (.int .u8 n)) s K = K (.v (.int .i64 (IntKind.i64.wrap n))) s := cvi (d := .int .u8) (by kernel_rfl) (by kernel_rfl) n s' s K
theorem cv5_233 (n : Int) (s' s : Slots) (K : AV → Slots → Prop) : awpCvX Tryz.prog 5 233 (.v (.int .u8 n), s') (.v (.int .u8 n)) (.v (.int .u8 n)) s K = K (.v (.int .u64 (IntKind.u64.wrap n))) s := cvi (d := .int .u8) (by kernel_rfl) (by kernel_rfl) n s' s K
theorem cv22_3 (n : Int) (s' s : Slots) (K : AV → Slots → Prop) : awpCvX Tryz.prog 22 3 (.v (.int .u32 n), s') (.v (.int .u32 n)) (.v (.int .u32 n)) s K = K (.v (.int .i64 (IntKind.i64.wrap n))) s := cvi (d := .int .u32) (by kernel_rfl) (by kernel_rfl) n s' s K
theorem cv233_3 (n : Int) (s' s : Slots) (K : AV → Slots → Prop) : awpCvX Tryz.prog 233 3 (.v (.int .u64 n), s') (.v (.int .u64 n)) (.v (.int .u64 n)) s K = K (.v (.int .i64 (IntKind.i64.wrap n))) s := cvi (d := .int .u64) (by kernel_rfl) (by kernel_rfl) n s' s K
theorem cv233_5 (n : Int) (s' s : Slots) (K : AV → Slots → Prop) : awpCvX Tryz.prog 233 5 (.v (.int .u64 n), s') (.v (.int .u64 n)) (.v (.int .u64 n)) s K = K (.v (.int .u8 (IntKind.u8.wrap n))) s := cvi (d := .int .u64) (by kernel_rfl) (by kernel_rfl) n s' s K
theorem ei23 : elemIn Tryz.prog 23 = some (25, 12, 96) := by kernel_rfl
theorem ei35 : elemIn Tryz.prog 35 = some (34, 4, 32) := by kernel_rfl
theorem ei40 : elemIn Tryz.prog 40 = some (47, 2, 48) := by kernel_rfl
theorem ei41 : elemIn Tryz.prog 41 = some (3, 1, 8) := by kernel_rfl
theorem ei45 : elemIn Tryz.prog 45 = some (5, 1, 1) := by kernel_rfl
theorem ei70 : elemIn Tryz.prog 70 = some (72, 5, 40) := by kernel_rfl
theorem ei107 : elemIn Tryz.prog 107 = some (187, 4, 32) := by kernel_rfl
theorem es23 : elemSz Tryz.prog 23 = some (25, 12) := by kernel_rfl
theorem es35 : elemSz Tryz.prog 35 = some (34, 4) := by kernel_rfl
theorem es40 : elemSz Tryz.prog 40 = some (47, 2) := by kernel_rfl
theorem es41 : elemSz Tryz.prog 41 = some (3, 1) := by kernel_rfl
theorem es45 : elemSz Tryz.prog 45 = some (5, 1) := by kernel_rfl
theorem es57 : elemSz Tryz.prog 57 = some (60, 2) := by kernel_rfl
theorem es70 : elemSz Tryz.prog 70 = some (72, 5) := by kernel_rfl
theorem es107 : elemSz Tryz.prog 107 = some (187, 4) := by kernel_rfl
theorem fd25 : flatDs Tryz.prog 25 = some [.int .i64, .int .i64, .int .i64, .int .i64, .int .i64, .bool, .int .i64, .int .i64, .int .i64, .int .i64, .int .i64, .int .i64] := by kernel_rfl
theorem fd34 : flatDs Tryz.prog 34 = some [.int .i64, .int .i64, .int .i64, .int .i64] := by kernel_rfl
theorem fl25 : fieldsAt Tryz.prog 25 = some [(0, 1), (1, 1), (2, 1), (3, 1), (4, 1), (5, 1), (6, 1), (7, 1), (8, 1), (9, 1), (10, 1), (11, 1)] := by kernel_rfl
theorem fl34 : fieldsAt Tryz.prog 34 = some [(0, 1), (1, 1), (2, 1), (3, 1)] := by kernel_rfl
theorem fl47 : fieldsAt Tryz.prog 47 = some [(0, 1), (1, 1)] := by kernel_rfl
theorem fl111 : fieldsAt Tryz.prog 111 = some [(0, 1), (1, 1)] := by kernel_rfl
theorem fl115 : fieldsAt Tryz.prog 115 = some [(0, 1), (1, 1), (2, 1), (3, 1), (4, 1)] := by kernel_rfl
theorem fl117 : fieldsAt Tryz.prog 117 = some [(0, 1), (1, 1)] := by kernel_rfl
theorem fl126 : fieldsAt Tryz.prog 126 = some [(0, 1), (1, 1), (2, 1), (3, 1)] := by kernel_rfl
theorem fl129 : fieldsAt Tryz.prog 129 = some [(0, 1)] := by kernel_rfl
theorem fl131 : fieldsAt Tryz.prog 131 = some [(0, 1), (1, 1), (2, 1)] := by kernel_rfl
theorem fl134 : fieldsAt Tryz.prog 134 = some [(0, 1), (1, 1)] := by kernel_rfl
theorem fl136 : fieldsAt Tryz.prog 136 = some [(0, 1), (1, 1)] := by kernel_rfl
theorem fl146 : fieldsAt Tryz.prog 146 = some [(0, 1), (1, 1)] := by kernel_rfl
theorem fl161 : fieldsAt Tryz.prog 161 = some [(0, 1), (1, 1)] := by kernel_rfl
theorem fl187 : fieldsAt Tryz.prog 187 = some [(0, 1), (1, 1), (2, 1), (3, 1)] := by kernel_rfl
theorem fl190 : fieldsAt Tryz.prog 190 = some [(0, 1)] := by kernel_rfl
theorem fl217 : fieldsAt Tryz.prog 217 = some [(0, 1), (1, 1), (2, 1)] := by kernel_rfl
theorem fl229 : fieldsAt Tryz.prog 229 = some [(0, 1), (1, 1), (2, 1)] := by kernel_rfl
theorem fo25_0 : fieldOf Tryz.prog 25 0 = some (0, 3) := by kernel_rfl
theorem fo25_1 : fieldOf Tryz.prog 25 1 = some (1, 3) := by kernel_rfl
theorem fo25_2 : fieldOf Tryz.prog 25 2 = some (2, 3) := by kernel_rfl
theorem fo25_3 : fieldOf Tryz.prog 25 3 = some (3, 3) := by kernel_rfl
theorem fo25_4 : fieldOf Tryz.prog 25 4 = some (4, 3) := by kernel_rfl
theorem fo25_5 : fieldOf Tryz.prog 25 5 = some (5, 4) := by kernel_rfl
theorem fo25_6 : fieldOf Tryz.prog 25 6 = some (6, 3) := by kernel_rfl
theorem fo25_7 : fieldOf Tryz.prog 25 7 = some (7, 3) := by kernel_rfl
theorem fo25_8 : fieldOf Tryz.prog 25 8 = some (8, 3) := by kernel_rfl
theorem fo25_9 : fieldOf Tryz.prog 25 9 = some (9, 3) := by kernel_rfl
theorem fo25_10 : fieldOf Tryz.prog 25 10 = some (10, 3) := by kernel_rfl
theorem fo25_11 : fieldOf Tryz.prog 25 11 = some (11, 3) := by kernel_rfl
theorem fo34_0 : fieldOf Tryz.prog 34 0 = some (0, 3) := by kernel_rfl
theorem fo34_1 : fieldOf Tryz.prog 34 1 = some (1, 3) := by kernel_rfl
theorem fo34_2 : fieldOf Tryz.prog 34 2 = some (2, 3) := by kernel_rfl
theorem fo34_3 : fieldOf Tryz.prog 34 3 = some (3, 3) := by kernel_rfl
theorem fo47_0 : fieldOf Tryz.prog 47 0 = some (0, 45) := by kernel_rfl
theorem fo47_1 : fieldOf Tryz.prog 47 1 = some (1, 45) := by kernel_rfl
theorem fo60_0 : fieldOf Tryz.prog 60 0 = some (0, 3) := by kernel_rfl
theorem fo60_1 : fieldOf Tryz.prog 60 1 = some (1, 3) := by kernel_rfl
theorem fo72_0 : fieldOf Tryz.prog 72 0 = some (0, 3) := by kernel_rfl
theorem fo72_1 : fieldOf Tryz.prog 72 1 = some (1, 34) := by kernel_rfl
theorem fo111_0 : fieldOf Tryz.prog 111 0 = some (0, 26) := by kernel_rfl
theorem fo111_1 : fieldOf Tryz.prog 111 1 = some (1, 3) := by kernel_rfl
theorem fo115_0 : fieldOf Tryz.prog 115 0 = some (0, 3) := by kernel_rfl
theorem fo115_1 : fieldOf Tryz.prog 115 1 = some (1, 3) := by kernel_rfl
theorem fo115_2 : fieldOf Tryz.prog 115 2 = some (2, 3) := by kernel_rfl
theorem fo115_3 : fieldOf Tryz.prog 115 3 = some (3, 3) := by kernel_rfl
theorem fo115_4 : fieldOf Tryz.prog 115 4 = some (4, 3) := by kernel_rfl
theorem fo117_0 : fieldOf Tryz.prog 117 0 = some (0, 26) := by kernel_rfl
theorem fo117_1 : fieldOf Tryz.prog 117 1 = some (1, 3) := by kernel_rfl
theorem fo126_0 : fieldOf Tryz.prog 126 0 = some (0, 123) := by kernel_rfl
theorem fo126_1 : fieldOf Tryz.prog 126 1 = some (1, 121) := by kernel_rfl
theorem fo126_2 : fieldOf Tryz.prog 126 2 = some (2, 124) := by kernel_rfl
theorem fo126_3 : fieldOf Tryz.prog 126 3 = some (3, 30) := by kernel_rfl
theorem fo129_0 : fieldOf Tryz.prog 129 0 = some (0, 40) := by kernel_rfl
theorem fo131_1 : fieldOf Tryz.prog 131 1 = some (1, 127) := by kernel_rfl
theorem fo131_2 : fieldOf Tryz.prog 131 2 = some (2, 127) := by kernel_rfl
theorem fo134_0 : fieldOf Tryz.prog 134 0 = some (0, 45) := by kernel_rfl
theorem fo134_1 : fieldOf Tryz.prog 134 1 = some (1, 4) := by kernel_rfl
theorem fo136_0 : fieldOf Tryz.prog 136 0 = some (0, 26) := by kernel_rfl
theorem fo136_1 : fieldOf Tryz.prog 136 1 = some (1, 45) := by kernel_rfl
theorem fo146_0 : fieldOf Tryz.prog 146 0 = some (0, 26) := by kernel_rfl
theorem fo146_1 : fieldOf Tryz.prog 146 1 = some (1, 3) := by kernel_rfl
theorem fo161_0 : fieldOf Tryz.prog 161 0 = some (0, 26) := by kernel_rfl
theorem fo161_1 : fieldOf Tryz.prog 161 1 = some (1, 45) := by kernel_rfl
theorem fo187_0 : fieldOf Tryz.prog 187 0 = some (0, 3) := by kernel_rfl
theorem fo187_1 : fieldOf Tryz.prog 187 1 = some (1, 3) := by kernel_rfl
theorem fo187_2 : fieldOf Tryz.prog 187 2 = some (2, 3) := by kernel_rfl
theorem fo187_3 : fieldOf Tryz.prog 187 3 = some (3, 3) := by kernel_rfl
theorem fo190_0 : fieldOf Tryz.prog 190 0 = some (0, 26) := by kernel_rfl
theorem fo217_0 : fieldOf Tryz.prog 217 0 = some (0, 5) := by kernel_rfl
theorem fo217_1 : fieldOf Tryz.prog 217 1 = some (1, 3) := by kernel_rfl
theorem fo217_2 : fieldOf Tryz.prog 217 2 = some (2, 3) := by kernel_rfl
theorem fo229_0 : fieldOf Tryz.prog 229 0 = some (0, 3) := by kernel_rfl
theorem fo229_1 : fieldOf Tryz.prog 229 1 = some (1, 3) := by kernel_rfl
theorem fo229_2 : fieldOf Tryz.prog 229 2 = some (2, 3) := by kernel_rfl
theorem mt123 : MapT Tryz.prog 123 9 134 (.string) := ⟨by kernel_rfl, by kernel_rfl⟩
theorem mt124 : MapT Tryz.prog 124 9 45 (.string) := ⟨by kernel_rfl, by kernel_rfl⟩
theorem of3 (c : AV) (cs : List AV) (K : AV → Prop) : ofCells Tryz.prog 3 (c :: cs) K = K (val c) := ofCells_one (by kernel_rfl) c cs K
theorem of4 (c : AV) (cs : List AV) (K : AV → Prop) : ofCells Tryz.prog 4 (c :: cs) K = K (val c) := ofCells_one (by kernel_rfl) c cs K
theorem of5 (c : AV) (cs : List AV) (K : AV → Prop) : ofCells Tryz.prog 5 (c :: cs) K = K (val c) := ofCells_one (by kernel_rfl) c cs K
theorem of25 (cs : List AV) (K : AV → Prop) : ofCells Tryz.prog 25 cs K = (12 ≤ cs.length ∧ K (.agg (cs.take 12))) := ofCells_agg (by kernel_rfl) cs K
theorem of26 (c : AV) (cs : List AV) (K : AV → Prop) : ofCells Tryz.prog 26 (c :: cs) K = K (val c) := ofCells_one (by kernel_rfl) c cs K
theorem of30 (c : AV) (cs : List AV) (K : AV → Prop) : ofCells Tryz.prog 30 (c :: cs) K = K (val c) := ofCells_one (by kernel_rfl) c cs K
theorem of34 (cs : List AV) (K : AV → Prop) : ofCells Tryz.prog 34 cs K = (4 ≤ cs.length ∧ K (.agg (cs.take 4))) := ofCells_agg (by kernel_rfl) cs K
theorem of40 (c : AV) (cs : List AV) (K : AV → Prop) : ofCells Tryz.prog 40 (c :: cs) K = K (val c) := ofCells_one (by kernel_rfl) c cs K
theorem of45 (c : AV) (cs : List AV) (K : AV → Prop) : ofCells Tryz.prog 45 (c :: cs) K = K (val c) := ofCells_one (by kernel_rfl) c cs K
theorem of47 (cs : List AV) (K : AV → Prop) : ofCells Tryz.prog 47 cs K = (2 ≤ cs.length ∧ K (.agg (cs.take 2))) := ofCells_agg (by kernel_rfl) cs K
theorem of60 (cs : List AV) (K : AV → Prop) : ofCells Tryz.prog 60 cs K = (2 ≤ cs.length ∧ K (.agg (cs.take 2))) := ofCells_agg (by kernel_rfl) cs K
theorem of72 (cs : List AV) (K : AV → Prop) : ofCells Tryz.prog 72 cs K = (5 ≤ cs.length ∧ K (.agg (cs.take 5))) := ofCells_agg (by kernel_rfl) cs K
theorem of115 (cs : List AV) (K : AV → Prop) : ofCells Tryz.prog 115 cs K = (5 ≤ cs.length ∧ K (.agg (cs.take 5))) := ofCells_agg (by kernel_rfl) cs K
theorem of117 (cs : List AV) (K : AV → Prop) : ofCells Tryz.prog 117 cs K = (2 ≤ cs.length ∧ K (.agg (cs.take 2))) := ofCells_agg (by kernel_rfl) cs K
theorem of121 (c : AV) (cs : List AV) (K : AV → Prop) : ofCells Tryz.prog 121 (c :: cs) K = K (val c) := ofCells_one (by kernel_rfl) c cs K
theorem of123 (c : AV) (cs : List AV) (K : AV → Prop) : ofCells Tryz.prog 123 (c :: cs) K = K (val c) := ofCells_one (by kernel_rfl) c cs K
theorem of124 (c : AV) (cs : List AV) (K : AV → Prop) : ofCells Tryz.prog 124 (c :: cs) K = K (val c) := ofCells_one (by kernel_rfl) c cs K
theorem of127 (c : AV) (cs : List AV) (K : AV → Prop) : ofCells Tryz.prog 127 (c :: cs) K = K (val c) := ofCells_one (by kernel_rfl) c cs K
theorem of134 (cs : List AV) (K : AV → Prop) : ofCells Tryz.prog 134 cs K = (2 ≤ cs.length ∧ K (.agg (cs.take 2))) := ofCells_agg (by kernel_rfl) cs K
theorem of136 (cs : List AV) (K : AV → Prop) : ofCells Tryz.prog 136 cs K = (2 ≤ cs.length ∧ K (.agg (cs.take 2))) := ofCells_agg (by kernel_rfl) cs K
theorem of146 (cs : List AV) (K : AV → Prop) : ofCells Tryz.prog 146 cs K = (2 ≤ cs.length ∧ K (.agg (cs.take 2))) := ofCells_agg (by kernel_rfl) cs K
theorem of161 (cs : List AV) (K : AV → Prop) : ofCells Tryz.prog 161 cs K = (2 ≤ cs.length ∧ K (.agg (cs.take 2))) := ofCells_agg (by kernel_rfl) cs K
theorem of187 (cs : List AV) (K : AV → Prop) : ofCells Tryz.prog 187 cs K = (4 ≤ cs.length ∧ K (.agg (cs.take 4))) := ofCells_agg (by kernel_rfl) cs K
theorem of190 (cs : List AV) (K : AV → Prop) : ofCells Tryz.prog 190 cs K = (1 ≤ cs.length ∧ K (.agg (cs.take 1))) := ofCells_agg (by kernel_rfl) cs K
theorem of217 (cs : List AV) (K : AV → Prop) : ofCells Tryz.prog 217 cs K = (3 ≤ cs.length ∧ K (.agg (cs.take 3))) := ofCells_agg (by kernel_rfl) cs K
theorem of229 (cs : List AV) (K : AV → Prop) : ofCells Tryz.prog 229 cs K = (3 ≤ cs.length ∧ K (.agg (cs.take 3))) := ofCells_agg (by kernel_rfl) cs K
theorem sz3 : szT Tryz.prog 3 = some 1 := by kernel_rfl
theorem sz25 : szT Tryz.prog 25 = some 12 := by kernel_rfl
theorem sz34 : szT Tryz.prog 34 = some 4 := by kernel_rfl
theorem sz40 : szT Tryz.prog 40 = some 1 := by kernel_rfl
theorem sz47 : szT Tryz.prog 47 = some 2 := by kernel_rfl
theorem sz60 : szT Tryz.prog 60 = some 2 := by kernel_rfl
theorem sz72 : szT Tryz.prog 72 = some 5 := by kernel_rfl
theorem sz117 : szT Tryz.prog 117 = some 2 := by kernel_rfl
theorem sz134 : szT Tryz.prog 134 = some 2 := by kernel_rfl
theorem sz136 : szT Tryz.prog 136 = some 2 := by kernel_rfl
theorem sz146 : szT Tryz.prog 146 = some 2 := by kernel_rfl
theorem sz161 : szT Tryz.prog 161 = some 2 := by kernel_rfl
theorem sz187 : szT Tryz.prog 187 = some 4 := by kernel_rfl
theorem sz190 : szT Tryz.prog 190 = some 1 := by kernel_rfl
theorem sz217 : szT Tryz.prog 217 = some 3 := by kernel_rfl
theorem sz229 : szT Tryz.prog 229 = some 3 := by kernel_rfl
theorem z3 : (Tryz.prog.info? 3).bind (·.zero) = some (.int .i64 0) := by kernel_rfl
theorem z5 : (Tryz.prog.info? 5).bind (·.zero) = some (.int .u8 0) := by kernel_rfl
theorem z25 : (Tryz.prog.info? 25).bind (·.zero) = some (.agg #[.int .i64 0, .int .i64 0, .int .i64 0, .int .i64 0, .int .i64 0, .bool false, .int .i64 0, .int .i64 0, .int .i64 0, .int .i64 0, .int .i64 0, .int .i64 0]) := by kernel_rfl
theorem z34 : (Tryz.prog.info? 34).bind (·.zero) = some (.agg #[.int .i64 0, .int .i64 0, .int .i64 0, .int .i64 0]) := by kernel_rfl
theorem z45 : (Tryz.prog.info? 45).bind (·.zero) = some (.slice none 0 0) := by kernel_rfl
theorem z47 : (Tryz.prog.info? 47).bind (·.zero) = some (.agg #[.slice none 0 0, .slice none 0 0]) := by kernel_rfl
theorem z60 : (Tryz.prog.info? 60).bind (·.zero) = some (.agg #[.int .i64 0, .int .i64 0]) := by kernel_rfl
theorem z72 : (Tryz.prog.info? 72).bind (·.zero) = some (.agg #[.int .i64 0, .int .i64 0, .int .i64 0, .int .i64 0, .int .i64 0]) := by kernel_rfl
theorem z111 : (Tryz.prog.info? 111).bind (·.zero) = some (.agg #[.pointer none, .int .i64 0]) := by kernel_rfl
theorem z115 : (Tryz.prog.info? 115).bind (·.zero) = some (.agg #[.int .i64 0, .int .i64 0, .int .i64 0, .int .i64 0, .int .i64 0]) := by kernel_rfl
theorem z117 : (Tryz.prog.info? 117).bind (·.zero) = some (.agg #[.pointer none, .int .i64 0]) := by kernel_rfl
theorem z126 : (Tryz.prog.info? 126).bind (·.zero) = some (.agg #[.map none, .pointer none, .map none, .int .i64 0]) := by kernel_rfl
theorem z129 : (Tryz.prog.info? 129).bind (·.zero) = some (.agg #[.slice none 0 0]) := by kernel_rfl
theorem z131 : (Tryz.prog.info? 131).bind (·.zero) = some (.agg #[.pointer none, .pointer none, .pointer none]) := by kernel_rfl
theorem z134 : (Tryz.prog.info? 134).bind (·.zero) = some (.agg #[.slice none 0 0, .bool false]) := by kernel_rfl
theorem z136 : (Tryz.prog.info? 136).bind (·.zero) = some (.agg #[.pointer none, .slice none 0 0]) := by kernel_rfl
theorem z146 : (Tryz.prog.info? 146).bind (·.zero) = some (.agg #[.pointer none, .int .i64 0]) := by kernel_rfl
theorem z161 : (Tryz.prog.info? 161).bind (·.zero) = some (.agg #[.pointer none, .slice none 0 0]) := by kernel_rfl
theorem z187 : (Tryz.prog.info? 187).bind (·.zero) = some (.agg #[.int .i64 0, .int .i64 0, .int .i64 0, .int .i64 0]) := by kernel_rfl
theorem z190 : (Tryz.prog.info? 190).bind (·.zero) = some (.agg #[.pointer none]) := by kernel_rfl
theorem z217 : (Tryz.prog.info? 217).bind (·.zero) = some (.agg #[.int .u8 0, .int .i64 0, .int .i64 0]) := by kernel_rfl
theorem z229 : (Tryz.prog.info? 229).bind (·.zero) = some (.agg #[.int .i64 0, .int .i64 0, .int .i64 0]) := by kernel_rfl
theorem zr3 : ((Tryz.prog.info? 3).any fun i => i.zero.isSome) = true := by kernel_rfl
theorem zr5 : ((Tryz.prog.info? 5).any fun i => i.zero.isSome) = true := by kernel_rfl
theorem zr25 : ((Tryz.prog.info? 25).any fun i => i.zero.isSome) = true := by kernel_rfl
theorem zr34 : ((Tryz.prog.info? 34).any fun i => i.zero.isSome) = true := by kernel_rfl
theorem zr47 : ((Tryz.prog.info? 47).any fun i => i.zero.isSome) = true := by kernel_rfl
theorem zr72 : ((Tryz.prog.info? 72).any fun i => i.zero.isSome) = true := by kernel_rfl
theorem zr187 : ((Tryz.prog.info? 187).any fun i => i.zero.isSome) = true := by kernel_rfl
theorem al25 (K : AV → Prop) : awpAlloc ((Tryz.prog.info? 25).bind (·.zero)) K = K (.box [.v (.int .i64 0), .v (.int .i64 0), .v (.int .i64 0), .v (.int .i64 0), .v (.int .i64 0), .v (.bool false), .v (.int .i64 0), .v (.int .i64 0), .v (.int .i64 0), .v (.int .i64 0), .v (.int .i64 0), .v (.int .i64 0)]) := alloc_eq z25 rfl rfl K
theorem al34 (K : AV → Prop) : awpAlloc ((Tryz.prog.info? 34).bind (·.zero)) K = K (.box [.v (.int .i64 0), .v (.int .i64 0), .v (.int .i64 0), .v (.int .i64 0)]) := alloc_eq z34 rfl rfl K
theorem al47 (K : AV → Prop) : awpAlloc ((Tryz.prog.info? 47).bind (·.zero)) K = K (.box [.v (.slice none 0 0), .v (.slice none 0 0)]) := alloc_eq z47 rfl rfl K
theorem al60 (K : AV → Prop) : awpAlloc ((Tryz.prog.info? 60).bind (·.zero)) K = K (.box [.v (.int .i64 0), .v (.int .i64 0)]) := alloc_eq z60 rfl rfl K
theorem al72 (K : AV → Prop) : awpAlloc ((Tryz.prog.info? 72).bind (·.zero)) K = K (.box [.v (.int .i64 0), .v (.int .i64 0), .v (.int .i64 0), .v (.int .i64 0), .v (.int .i64 0)]) := alloc_eq z72 rfl rfl K
theorem al117 (K : AV → Prop) : awpAlloc ((Tryz.prog.info? 117).bind (·.zero)) K = K (.box [.v (.pointer none), .v (.int .i64 0)]) := alloc_eq z117 rfl rfl K
theorem al134 (K : AV → Prop) : awpAlloc ((Tryz.prog.info? 134).bind (·.zero)) K = K (.box [.v (.slice none 0 0), .v (.bool false)]) := alloc_eq z134 rfl rfl K
theorem al146 (K : AV → Prop) : awpAlloc ((Tryz.prog.info? 146).bind (·.zero)) K = K (.box [.v (.pointer none), .v (.int .i64 0)]) := alloc_eq z146 rfl rfl K
theorem al161 (K : AV → Prop) : awpAlloc ((Tryz.prog.info? 161).bind (·.zero)) K = K (.box [.v (.pointer none), .v (.slice none 0 0)]) := alloc_eq z161 rfl rfl K
theorem al187 (K : AV → Prop) : awpAlloc ((Tryz.prog.info? 187).bind (·.zero)) K = K (.box [.v (.int .i64 0), .v (.int .i64 0), .v (.int .i64 0), .v (.int .i64 0)]) := alloc_eq z187 rfl rfl K
theorem al190 (K : AV → Prop) : awpAlloc ((Tryz.prog.info? 190).bind (·.zero)) K = K (.box [.v (.pointer none)]) := alloc_eq z190 rfl rfl K
theorem al217 (K : AV → Prop) : awpAlloc ((Tryz.prog.info? 217).bind (·.zero)) K = K (.box [.v (.int .u8 0), .v (.int .i64 0), .v (.int .i64 0)]) := alloc_eq z217 rfl rfl K
theorem al229 (K : AV → Prop) : awpAlloc ((Tryz.prog.info? 229).bind (·.zero)) K = K (.box [.v (.int .i64 0), .v (.int .i64 0), .v (.int .i64 0)]) := alloc_eq z229 rfl rfl K
theorem bd25 (parts : List (Nat × AV)) (K : AV → Prop) : awpBuild Tryz.prog 25 parts K = bldE [(0, 1), (1, 1), (2, 1), (3, 1), (4, 1), (5, 1), (6, 1), (7, 1), (8, 1), (9, 1), (10, 1), (11, 1)] [.v (.int .i64 0), .v (.int .i64 0), .v (.int .i64 0), .v (.int .i64 0), .v (.int .i64 0), .v (.bool false), .v (.int .i64 0), .v (.int .i64 0), .v (.int .i64 0), .v (.int .i64 0), .v (.int .i64 0), .v (.int .i64 0)] K parts := build_eq fl25 z25 rfl parts K
theorem bd34 (parts : List (Nat × AV)) (K : AV → Prop) : awpBuild Tryz.prog 34 parts K = bldE [(0, 1), (1, 1), (2, 1), (3, 1)] [.v (.int .i64 0), .v (.int .i64 0), .v (.int .i64 0), .v (.int .i64 0)] K parts := build_eq fl34 z34 rfl parts K
theorem bd47 (parts : List (Nat × AV)) (K : AV → Prop) : awpBuild Tryz.prog 47 parts K = bldE [(0, 1), (1, 1)] [.v (.slice none 0 0), .v (.slice none 0 0)] K parts := build_eq fl47 z47 rfl parts K
theorem bd111 (parts : List (Nat × AV)) (K : AV → Prop) : awpBuild Tryz.prog 111 parts K = bldE [(0, 1), (1, 1)] [.v (.pointer none), .v (.int .i64 0)] K parts := build_eq fl111 z111 rfl parts K
theorem bd115 (parts : List (Nat × AV)) (K : AV → Prop) : awpBuild Tryz.prog 115 parts K = bldE [(0, 1), (1, 1), (2, 1), (3, 1), (4, 1)] [.v (.int .i64 0), .v (.int .i64 0), .v (.int .i64 0), .v (.int .i64 0), .v (.int .i64 0)] K parts := build_eq fl115 z115 rfl parts K
theorem bd117 (parts : List (Nat × AV)) (K : AV → Prop) : awpBuild Tryz.prog 117 parts K = bldE [(0, 1), (1, 1)] [.v (.pointer none), .v (.int .i64 0)] K parts := build_eq fl117 z117 rfl parts K
theorem bd129 (parts : List (Nat × AV)) (K : AV → Prop) : awpBuild Tryz.prog 129 parts K = bldE [(0, 1)] [.v (.slice none 0 0)] K parts := build_eq fl129 z129 rfl parts K
theorem bd131 (parts : List (Nat × AV)) (K : AV → Prop) : awpBuild Tryz.prog 131 parts K = bldE [(0, 1), (1, 1), (2, 1)] [.v (.pointer none), .v (.pointer none), .v (.pointer none)] K parts := build_eq fl131 z131 rfl parts K
theorem bd134 (parts : List (Nat × AV)) (K : AV → Prop) : awpBuild Tryz.prog 134 parts K = bldE [(0, 1), (1, 1)] [.v (.slice none 0 0), .v (.bool false)] K parts := build_eq fl134 z134 rfl parts K
theorem bd146 (parts : List (Nat × AV)) (K : AV → Prop) : awpBuild Tryz.prog 146 parts K = bldE [(0, 1), (1, 1)] [.v (.pointer none), .v (.int .i64 0)] K parts := build_eq fl146 z146 rfl parts K
theorem bd161 (parts : List (Nat × AV)) (K : AV → Prop) : awpBuild Tryz.prog 161 parts K = bldE [(0, 1), (1, 1)] [.v (.pointer none), .v (.slice none 0 0)] K parts := build_eq fl161 z161 rfl parts K
theorem bd187 (parts : List (Nat × AV)) (K : AV → Prop) : awpBuild Tryz.prog 187 parts K = bldE [(0, 1), (1, 1), (2, 1), (3, 1)] [.v (.int .i64 0), .v (.int .i64 0), .v (.int .i64 0), .v (.int .i64 0)] K parts := build_eq fl187 z187 rfl parts K
theorem bd190 (parts : List (Nat × AV)) (K : AV → Prop) : awpBuild Tryz.prog 190 parts K = bldE [(0, 1)] [.v (.pointer none)] K parts := build_eq fl190 z190 rfl parts K
theorem bd217 (parts : List (Nat × AV)) (K : AV → Prop) : awpBuild Tryz.prog 217 parts K = bldE [(0, 1), (1, 1), (2, 1)] [.v (.int .u8 0), .v (.int .i64 0), .v (.int .i64 0)] K parts := build_eq fl217 z217 rfl parts K
theorem bd229 (parts : List (Nat × AV)) (K : AV → Prop) : awpBuild Tryz.prog 229 parts K = bldE [(0, 1), (1, 1), (2, 1)] [.v (.int .i64 0), .v (.int .i64 0), .v (.int .i64 0)] K parts := build_eq fl229 z229 rfl parts K
theorem q3 : type_of% (And.intro (And.intro (And.intro cv22_3 (And.intro cv5_3 bd25)) (And.intro es23 (And.intro (fun tx => append_own (tx := tx) ei23) (fun tx => append_nil (tx := tx) ei23)))) (And.intro (And.intro bd34 (And.intro es35 al25)) (And.intro (And.intro sz25 fo25_7) (And.intro of3 Tryz.results3)))) := (And.intro (And.intro (And.intro cv22_3 (And.intro cv5_3 bd25)) (And.intro es23 (And.intro (fun tx => append_own (tx := tx) ei23) (fun tx => append_nil (tx := tx) ei23)))) (And.intro (And.intro bd34 (And.intro es35 al25)) (And.intro (And.intro sz25 fo25_7) (And.intro of3 Tryz.results3))))
theorem q7 : type_of% (And.intro (And.intro (And.intro (And.intro Tryz.underlying70 es70) (And.intro as70 of72)) (And.intro (And.intro al72 sz72) (And.intro fo72_0 of3))) (And.intro (And.intro (And.intro fo72_1 of34) (And.intro (fun tx => append_own (tx := tx) ei70) (fun tx => append_nil (tx := tx) ei70))) (And.intro (And.intro fo34_3 sz3) (And.intro Tryz.underlying40 Tryz.results7)))) := (And.intro (And.intro (And.intro (And.intro Tryz.underlying70 es70) (And.intro as70 of72)) (And.intro (And.intro al72 sz72) (And.intro fo72_0 of3))) (And.intro (And.intro (And.intro fo72_1 of34) (And.intro (fun tx => append_own (tx := tx) ei70) (fun tx => append_nil (tx := tx) ei70))) (And.intro (And.intro fo34_3 sz3) (And.intro Tryz.underlying40 Tryz.results7))))
theorem q8 : type_of% (And.intro (And.intro (And.intro (And.intro Tryz.underlying57 Tryz.underlying40) (And.intro es40 as40)) (And.intro (And.intro of47 al47) (And.intro sz47 (And.intro fo47_0 of45)))) (And.intro (And.intro (And.intro fo47_1 es57) (And.intro as57 (And.intro of60 al60))) (And.intro (And.intro sz60 fo60_0) (And.intro of3 (And.intro fo60_1 Tryz.results8))))) := (And.intro (And.intro (And.intro (And.intro Tryz.underlying57 Tryz.underlying40) (And.intro es40 as40)) (And.intro (And.intro of47 al47) (And.intro sz47 (And.intro fo47_0 of45)))) (And.intro (And.intro (And.intro fo47_1 es57) (And.intro as57 (And.intro of60 al60))) (And.intro (And.intro sz60 fo60_0) (And.intro of3 (And.intro fo60_1 Tryz.results8)))))
theorem q10 : type_of% (And.intro (And.intro (And.intro (And.intro Tryz.underlying23 Tryz.underlying40) (And.intro es40 as40)) (And.intro (And.intro of47 al47) (And.intro sz47 fo47_0))) (And.intro (And.intro (And.intro of45 fo47_1) (And.intro es23 as23)) (And.intro (And.intro of25 al25) (And.intro sz25 Tryz.results10)))) := (And.intro (And.intro (And.intro (And.intro Tryz.underlying23 Tryz.underlying40) (And.intro es40 as40)) (And.intro (And.intro of47 al47) (And.intro sz47 fo47_0))) (And.intro (And.intro (And.intro of45 fo47_1) (And.intro es23 as23)) (And.intro (And.intro of25 al25) (And.intro sz25 Tryz.results10))))
theorem q13 : type_of% (And.intro (And.intro (And.intro Tryz.underlying23 es23) (And.intro as23 of25)) (And.intro (And.intro al25 sz25) (And.intro fo25_0 (And.intro sz3 Tryz.results13)))) := (And.intro (And.intro (And.intro Tryz.underlying23 es23) (And.intro as23 of25)) (And.intro (And.intro al25 sz25) (And.intro fo25_0 (And.intro sz3 Tryz.results13))))
theorem q14 : type_of% (And.intro bd111 (And.intro bd115 Tryz.results14)) := (And.intro bd111 (And.intro bd115 Tryz.results14))
theorem q15 : type_of% (And.intro (And.intro of25 al25) (And.intro bd117 (And.intro sz25 Tryz.results15))) := (And.intro (And.intro of25 al25) (And.intro bd117 (And.intro sz25 Tryz.results15)))
theorem q16 : type_of% (And.intro (And.intro (And.intro bd25 es23) (And.intro bd34 es35)) (And.intro (And.intro al25 sz25) (And.intro fo25_7 (And.intro of3 Tryz.results16)))) := (And.intro (And.intro (And.intro bd25 es23) (And.intro bd34 es35)) (And.intro (And.intro al25 sz25) (And.intro fo25_7 (And.intro of3 Tryz.results16))))
theorem q39 : type_of% (And.intro (And.intro bd34 (And.intro al34 sz34)) (And.intro of34 (And.intro es35 Tryz.results39))) := (And.intro (And.intro bd34 (And.intro al34 sz34)) (And.intro of34 (And.intro es35 Tryz.results39)))
theorem q40 : type_of% (And.intro (And.intro (And.intro fo34_0 of3) (And.intro fo34_1 es41)) (And.intro (And.intro al161 sz161) (And.intro of161 (And.intro fo34_3 Tryz.results40)))) := (And.intro (And.intro (And.intro fo34_0 of3) (And.intro fo34_1 es41)) (And.intro (And.intro al161 sz161) (And.intro of161 (And.intro fo34_3 Tryz.results40))))
theorem q41 : type_of% (And.intro (And.intro Tryz.underlying70 (And.intro es70 as70)) (And.intro of72 (And.intro sz72 Tryz.results41))) := (And.intro (And.intro Tryz.underlying70 (And.intro es70 as70)) (And.intro of72 (And.intro sz72 Tryz.results41)))
theorem q52 : type_of% (And.intro (And.intro bd25 (And.intro Tryz.underlying23 es23)) (And.intro (And.intro as23 fo25_1) (And.intro of3 Tryz.results52))) := (And.intro (And.intro bd25 (And.intro Tryz.underlying23 es23)) (And.intro (And.intro as23 fo25_1) (And.intro of3 Tryz.results52)))
theorem q55 : type_of% (And.intro (And.intro of25 (And.intro al47 sz47)) (And.intro (And.intro fo47_0 of45) (And.intro fo47_1 Tryz.results55))) := (And.intro (And.intro of25 (And.intro al47 sz47)) (And.intro (And.intro fo47_0 of45) (And.intro fo47_1 Tryz.results55)))
theorem q57 : type_of% (And.intro (And.intro fo25_7 of3) (And.intro fo25_8 (And.intro fo25_9 Tryz.results57))) := (And.intro (And.intro fo25_7 of3) (And.intro fo25_8 (And.intro fo25_9 Tryz.results57)))
theorem q58 : type_of% (And.intro (And.intro (And.intro of25 al25) (And.intro es41 (And.intro bd47 sz25))) (And.intro (And.intro fo25_0 of3) (And.intro fo25_1 (And.intro bd25 Tryz.results58)))) := (And.intro (And.intro (And.intro of25 al25) (And.intro es41 (And.intro bd47 sz25))) (And.intro (And.intro fo25_0 of3) (And.intro fo25_1 (And.intro bd25 Tryz.results58))))
theorem q59 : type_of% (And.intro (And.intro Tryz.underlying23 es23) (And.intro as23 (And.intro of25 Tryz.results59))) := (And.intro (And.intro Tryz.underlying23 es23) (And.intro as23 (And.intro of25 Tryz.results59)))
theorem q60 : type_of% Tryz.results60 := Tryz.results60
theorem q61 : type_of% (And.intro (And.intro (And.intro Tryz.underlying23 es23) (And.intro as23 fo25_2)) (And.intro (And.intro of3 of25) (And.intro (fun tx => append_own (tx := tx) ei23) (And.intro (fun tx => append_nil (tx := tx) ei23) Tryz.results61)))) := (And.intro (And.intro (And.intro Tryz.underlying23 es23) (And.intro as23 fo25_2)) (And.intro (And.intro of3 of25) (And.intro (fun tx => append_own (tx := tx) ei23) (And.intro (fun tx => append_nil (tx := tx) ei23) Tryz.results61))))
theorem q62 : type_of% (And.intro (And.intro (And.intro Tryz.underlying23 al25) (And.intro sz25 (And.intro of25 es23))) (And.intro (And.intro (fun tx => append_own (tx := tx) ei23) (fun tx => append_nil (tx := tx) ei23)) (And.intro fo25_2 (And.intro of3 Tryz.results62)))) := (And.intro (And.intro (And.intro Tryz.underlying23 al25) (And.intro sz25 (And.intro of25 es23))) (And.intro (And.intro (fun tx => append_own (tx := tx) ei23) (fun tx => append_nil (tx := tx) ei23)) (And.intro fo25_2 (And.intro of3 Tryz.results62))))
theorem q63 : type_of% (And.intro bd117 Tryz.results63) := (And.intro bd117 Tryz.results63)
theorem q64 : type_of% (And.intro (And.intro (And.intro es41 (And.intro Tryz.underlying40 es40)) (And.intro (And.intro as40 of47) (And.intro al25 sz25))) (And.intro (And.intro fo25_0 (And.intro of3 of25)) (And.intro (And.intro es23 (fun tx => append_own (tx := tx) ei23)) (And.intro (fun tx => append_nil (tx := tx) ei23) Tryz.results64)))) := (And.intro (And.intro (And.intro es41 (And.intro Tryz.underlying40 es40)) (And.intro (And.intro as40 of47) (And.intro al25 sz25))) (And.intro (And.intro fo25_0 (And.intro of3 of25)) (And.intro (And.intro es23 (fun tx => append_own (tx := tx) ei23)) (And.intro (fun tx => append_nil (tx := tx) ei23) Tryz.results64))))
theorem q65 : type_of% (And.intro (And.intro (And.intro Tryz.underlying23 es23) (And.intro as23 of25)) (And.intro (And.intro al25 sz25) (And.intro fo25_6 (And.intro of3 Tryz.results65)))) := (And.intro (And.intro (And.intro Tryz.underlying23 es23) (And.intro as23 of25)) (And.intro (And.intro al25 sz25) (And.intro fo25_6 (And.intro of3 Tryz.results65))))
theorem q66 : type_of% (And.intro (And.intro Tryz.underlying23 (And.intro es23 as23)) (And.intro fo25_6 (And.intro of3 Tryz.results66))) := (And.intro (And.intro Tryz.underlying23 (And.intro es23 as23)) (And.intro fo25_6 (And.intro of3 Tryz.results66)))
theorem q72 : type_of% (And.intro (And.intro Tryz.underlying35 es35) (And.intro as35 (And.intro of34 Tryz.results72))) := (And.intro (And.intro Tryz.underlying35 es35) (And.intro as35 (And.intro of34 Tryz.results72)))
theorem q82 : type_of% (And.intro Tryz.underlying35 Tryz.results82) := (And.intro Tryz.underlying35 Tryz.results82)
theorem q83 : type_of% (And.intro (And.intro (And.intro Tryz.underlying35 (And.intro es35 as35)) (And.intro (And.intro of34 al34) (And.intro sz34 fo34_2))) (And.intro (And.intro of3 (And.intro fo34_3 bd187)) (And.intro (And.intro es107 (fun tx => append_own (tx := tx) ei107)) (And.intro (fun tx => append_nil (tx := tx) ei107) Tryz.results83)))) := (And.intro (And.intro (And.intro Tryz.underlying35 (And.intro es35 as35)) (And.intro (And.intro of34 al34) (And.intro sz34 fo34_2))) (And.intro (And.intro of3 (And.intro fo34_3 bd187)) (And.intro (And.intro es107 (fun tx => append_own (tx := tx) ei107)) (And.intro (fun tx => append_nil (tx := tx) ei107) Tryz.results83))))
theorem q84 : type_of% (And.intro (And.intro (And.intro Tryz.underlying107 (And.intro es107 as107)) (And.intro of187 (And.intro al187 sz187))) (And.intro (And.intro fo111_0 (And.intro of26 fo111_1)) (And.intro (And.intro of3 fo187_0) (And.intro fo187_1 Tryz.results84)))) := (And.intro (And.intro (And.intro Tryz.underlying107 (And.intro es107 as107)) (And.intro of187 (And.intro al187 sz187))) (And.intro (And.intro fo111_0 (And.intro of26 fo111_1)) (And.intro (And.intro of3 fo187_0) (And.intro fo187_1 Tryz.results84))))
theorem q85 : type_of% (And.intro (And.intro (And.intro Tryz.underlying107 (And.intro bd190 al190)) (And.intro (And.intro sz190 es107) (And.intro as107 of187))) (And.intro (And.intro (And.intro al187 sz187) (And.intro of190 fo115_0)) (And.intro (And.intro sz3 fo115_4) (And.intro of115 Tryz.results85)))) := (And.intro (And.intro (And.intro Tryz.underlying107 (And.intro bd190 al190)) (And.intro (And.intro sz190 es107) (And.intro as107 of187))) (And.intro (And.intro (And.intro al187 sz187) (And.intro of190 fo115_0)) (And.intro (And.intro sz3 fo115_4) (And.intro of115 Tryz.results85))))
theorem q113 : type_of% (And.intro es41 Tryz.results113) := (And.intro es41 Tryz.results113)
theorem q114 : type_of% (And.intro (And.intro (And.intro (And.intro es41 Tryz.underlying40) (And.intro es40 as40)) (And.intro (And.intro of47 al47) (And.intro sz47 (And.intro fo47_0 of45)))) (And.intro (And.intro (And.intro fo47_1 Tryz.underlying41) (And.intro as41 of3)) (And.intro (And.intro bd34 es35) (And.intro (fun tx => append_own (tx := tx) ei35) (And.intro (fun tx => append_nil (tx := tx) ei35) Tryz.results114))))) := (And.intro (And.intro (And.intro (And.intro es41 Tryz.underlying40) (And.intro es40 as40)) (And.intro (And.intro of47 al47) (And.intro sz47 (And.intro fo47_0 of45)))) (And.intro (And.intro (And.intro fo47_1 Tryz.underlying41) (And.intro as41 of3)) (And.intro (And.intro bd34 es35) (And.intro (fun tx => append_own (tx := tx) ei35) (And.intro (fun tx => append_nil (tx := tx) ei35) Tryz.results114)))))
theorem q115 : type_of% (And.intro (And.intro of161 al161) (And.intro bd161 (And.intro sz161 Tryz.results115))) := (And.intro (And.intro of161 al161) (And.intro bd161 (And.intro sz161 Tryz.results115)))
theorem q116 : type_of% Tryz.results116 := Tryz.results116
theorem q117 : type_of% (And.intro (And.intro fo161_0 of26) (And.intro fo161_1 (And.intro of45 Tryz.results117))) := (And.intro (And.intro fo161_0 of26) (And.intro fo161_1 (And.intro of45 Tryz.results117)))
theorem q118 : type_of% (And.intro (And.intro fo161_0 (And.intro of26 fo161_1)) (And.intro of45 (And.intro es41 Tryz.results118))) := (And.intro (And.intro fo161_0 (And.intro of26 fo161_1)) (And.intro of45 (And.intro es41 Tryz.results118)))
theorem q127 : type_of% (And.intro Tryz.underlying41 Tryz.results127) := (And.intro Tryz.underlying41 Tryz.results127)
theorem q129 : type_of% (And.intro (And.intro (And.intro (And.intro of47 al47) (And.intro fo25_5 of4)) (And.intro (And.intro fo25_0 of3) (And.intro fo25_1 (And.intro es41 fo25_2)))) (And.intro (And.intro (And.intro fo25_3 fo25_4) (And.intro fo25_6 (And.intro fo25_7 fo25_8))) (And.intro (And.intro fo25_9 fo25_10) (And.intro fo25_11 (And.intro sz47 Tryz.results129))))) := (And.intro (And.intro (And.intro (And.intro of47 al47) (And.intro fo25_5 of4)) (And.intro (And.intro fo25_0 of3) (And.intro fo25_1 (And.intro es41 fo25_2)))) (And.intro (And.intro (And.intro fo25_3 fo25_4) (And.intro fo25_6 (And.intro fo25_7 fo25_8))) (And.intro (And.intro fo25_9 fo25_10) (And.intro fo25_11 (And.intro sz47 Tryz.results129)))))
theorem q131 : type_of% (And.intro (And.intro (And.intro of25 al25) (And.intro of47 bd25)) (And.intro (And.intro sz25 es41) (And.intro as41 (And.intro of3 Tryz.results131)))) := (And.intro (And.intro (And.intro of25 al25) (And.intro of47 bd25)) (And.intro (And.intro sz25 es41) (And.intro as41 (And.intro of3 Tryz.results131))))
theorem q133 : type_of% (And.intro fo25_2 (And.intro of3 Tryz.results133)) := (And.intro fo25_2 (And.intro of3 Tryz.results133))
theorem q134 : type_of% (And.intro (And.intro (And.intro (And.intro fo117_0 of26) (And.intro fo117_1 of3)) (And.intro (And.intro es41 Tryz.underlying40) (And.intro es40 (And.intro as40 of47)))) (And.intro (And.intro (And.intro al47 sz47) (And.intro al25 (And.intro sz25 fo25_0))) (And.intro (And.intro of25 es23) (And.intro (fun tx => append_own (tx := tx) ei23) (And.intro (fun tx => append_nil (tx := tx) ei23) Tryz.results134))))) := (And.intro (And.intro (And.intro (And.intro fo117_0 of26) (And.intro fo117_1 of3)) (And.intro (And.intro es41 Tryz.underlying40) (And.intro es40 (And.intro as40 of47)))) (And.intro (And.intro (And.intro al47 sz47) (And.intro al25 (And.intro sz25 fo25_0))) (And.intro (And.intro of25 es23) (And.intro (fun tx => append_own (tx := tx) ei23) (And.intro (fun tx => append_nil (tx := tx) ei23) Tryz.results134)))))
theorem q144 : type_of% Tryz.results144 := Tryz.results144
theorem q147 : type_of% (And.intro fo34_3 (And.intro of3 Tryz.results147)) := (And.intro fo34_3 (And.intro of3 Tryz.results147))
theorem q148 : type_of% Tryz.results148 := Tryz.results148
theorem q150 : type_of% (And.intro (And.intro fo190_0 (And.intro of26 fo47_0)) (And.intro of45 (And.intro fo47_1 Tryz.results150))) := (And.intro (And.intro fo190_0 (And.intro of26 fo47_0)) (And.intro of45 (And.intro fo47_1 Tryz.results150)))
theorem q151 : type_of% (And.intro (And.intro (And.intro of47 al47) (And.intro fo187_0 (And.intro of3 fo187_1))) (And.intro (And.intro fo187_2 fo187_3) (And.intro es41 (And.intro sz47 Tryz.results151)))) := (And.intro (And.intro (And.intro of47 al47) (And.intro fo187_0 (And.intro of3 fo187_1))) (And.intro (And.intro fo187_2 fo187_3) (And.intro es41 (And.intro sz47 Tryz.results151))))
theorem q152 : type_of% (And.intro (And.intro (And.intro of47 al47) (And.intro fo115_0 (And.intro of3 fo115_1))) (And.intro (And.intro fo115_2 (And.intro fo115_3 fo115_4)) (And.intro es41 (And.intro sz47 Tryz.results152)))) := (And.intro (And.intro (And.intro of47 al47) (And.intro fo115_0 (And.intro of3 fo115_1))) (And.intro (And.intro fo115_2 (And.intro fo115_3 fo115_4)) (And.intro es41 (And.intro sz47 Tryz.results152))))
theorem q155 : type_of% (And.intro (And.intro Tryz.underlying40 es40) (And.intro as40 (And.intro of47 Tryz.results155))) := (And.intro (And.intro Tryz.underlying40 es40) (And.intro as40 (And.intro of47 Tryz.results155)))
theorem q177 : type_of% (And.intro (And.intro es41 as41) (And.intro of3 Tryz.results177)) := (And.intro (And.intro es41 as41) (And.intro of3 Tryz.results177))
theorem q178 : type_of% Tryz.results178 := Tryz.results178
theorem q179 : type_of% (And.intro (And.intro fo126_0 (And.intro of123 (fun src => cvX_str (src := src) Tryz.underlying9))) (And.intro Tryz.underlying45 (And.intro bd134 Tryz.results179))) := (And.intro (And.intro fo126_0 (And.intro of123 (fun src => cvX_str (src := src) Tryz.underlying9))) (And.intro Tryz.underlying45 (And.intro bd134 Tryz.results179)))
theorem q185 : type_of% (And.intro (And.intro (And.intro Tryz.underlying45 es41) (And.intro (fun tx => append_own (tx := tx) ei41) (fun tx => append_nil (tx := tx) ei41))) (And.intro (And.intro es45 as45) (And.intro of5 Tryz.results185))) := (And.intro (And.intro (And.intro Tryz.underlying45 es41) (And.intro (fun tx => append_own (tx := tx) ei41) (fun tx => append_nil (tx := tx) ei41))) (And.intro (And.intro es45 as45) (And.intro of5 Tryz.results185)))
theorem q189 : type_of% (And.intro (And.intro of47 al47) (And.intro bd47 (And.intro sz47 Tryz.results189))) := (And.intro (And.intro of47 al47) (And.intro bd47 (And.intro sz47 Tryz.results189)))
theorem q191 : type_of% (And.intro (And.intro fo47_0 of45) (And.intro fo47_1 Tryz.results191)) := (And.intro (And.intro fo47_0 of45) (And.intro fo47_1 Tryz.results191))
theorem q196 : type_of% (And.intro (And.intro Tryz.underlying35 es35) (And.intro as35 (And.intro of34 Tryz.results196))) := (And.intro (And.intro Tryz.underlying35 es35) (And.intro as35 (And.intro of34 Tryz.results196)))
theorem q199 : type_of% (And.intro (And.intro of217 al217) (And.intro bd217 (And.intro sz217 Tryz.results199))) := (And.intro (And.intro of217 al217) (And.intro bd217 (And.intro sz217 Tryz.results199)))
theorem q200 : type_of% (And.intro (And.intro of217 al217) (And.intro bd217 (And.intro sz217 Tryz.results200))) := (And.intro (And.intro of217 al217) (And.intro bd217 (And.intro sz217 Tryz.results200)))
end Go.Proofs.Lx
