/- What the types of this program say. -/
import Derived.Test.YtknjifhhfccfhaaGreatDoorV2
import Derived.Test.YtknjifhhfccfhaaGreatDoorProg
import Derived.KernelRfl
/- What the types of this program say: printed. -/
set_option linter.unusedSimpArgs false
set_option linter.unusedVariables false
namespace Go.Proofs.Lx
open Go.Vm
theorem as22 : arrSz Tryz.prog 22 = none := by kernel_rfl
theorem as33 : arrSz Tryz.prog 33 = none := by kernel_rfl
theorem as34 : arrSz Tryz.prog 34 = none := by kernel_rfl
theorem as43 : arrSz Tryz.prog 43 = none := by kernel_rfl
theorem as49 : arrSz Tryz.prog 49 = none := by kernel_rfl
theorem as51 : arrSz Tryz.prog 51 = none := by kernel_rfl
theorem as65 : arrSz Tryz.prog 65 = none := by kernel_rfl
theorem as89 : arrSz Tryz.prog 89 = none := by kernel_rfl
theorem as119 : arrSz Tryz.prog 119 = none := by kernel_rfl
theorem bt22 : bytesT Tryz.prog 22 = true := by kernel_rfl
theorem cv3_145 (n : Int) (s' s : Slots) (K : AV → Slots → Prop) : awpCvX Tryz.prog 3 145 (.v (.int .i64 n), s') (.v (.int .i64 n)) (.v (.int .i64 n)) s K = K (.v (.int .u64 (IntKind.u64.wrap n))) s := cvi (d := .int .i64) (by kernel_rfl) (by kernel_rfl) n s' s K
theorem cv5_145 (n : Int) (s' s : Slots) (K : AV → Slots → Prop) : awpCvX Tryz.prog 5 145 (.v (.int .u8 n), s') (.v (.int .u8 n)) (.v (.int .u8 n)) s K = K (.v (.int .u64 (IntKind.u64.wrap n))) s := cvi (d := .int .u8) (by kernel_rfl) (by kernel_rfl) n s' s K
theorem cv145_3 (n : Int) (s' s : Slots) (K : AV → Slots → Prop) : awpCvX Tryz.prog 145 3 (.v (.int .u64 n), s') (.v (.int .u64 n)) (.v (.int .u64 n)) s K = K (.v (.int .i64 (IntKind.i64.wrap n))) s := cvi (d := .int .u64) (by kernel_rfl) (by kernel_rfl) n s' s K
theorem cv145_5 (n : Int) (s' s : Slots) (K : AV → Slots → Prop) : awpCvX Tryz.prog 145 5 (.v (.int .u64 n), s') (.v (.int .u64 n)) (.v (.int .u64 n)) s K = K (.v (.int .u8 (IntKind.u8.wrap n))) s := cvi (d := .int .u64) (by kernel_rfl) (by kernel_rfl) n s' s K
theorem ei22 : elemIn Tryz.prog 22 = some (5, 1, 1) := by kernel_rfl
theorem ei33 : elemIn Tryz.prog 33 = some (68, 2, 48) := by kernel_rfl
theorem ei34 : elemIn Tryz.prog 34 = some (22, 1, 24) := by kernel_rfl
theorem ei51 : elemIn Tryz.prog 51 = some (53, 4, 32) := by kernel_rfl
theorem ei65 : elemIn Tryz.prog 65 = some (9, 1, 16) := by kernel_rfl
theorem ei89 : elemIn Tryz.prog 89 = some (91, 3, 24) := by kernel_rfl
theorem ei119 : elemIn Tryz.prog 119 = some (3, 1, 8) := by kernel_rfl
theorem es22 : elemSz Tryz.prog 22 = some (5, 1) := by kernel_rfl
theorem es33 : elemSz Tryz.prog 33 = some (68, 2) := by kernel_rfl
theorem es34 : elemSz Tryz.prog 34 = some (22, 1) := by kernel_rfl
theorem es43 : elemSz Tryz.prog 43 = some (82, 3) := by kernel_rfl
theorem es49 : elemSz Tryz.prog 49 = some (51, 1) := by kernel_rfl
theorem es51 : elemSz Tryz.prog 51 = some (53, 4) := by kernel_rfl
theorem es65 : elemSz Tryz.prog 65 = some (9, 1) := by kernel_rfl
theorem es89 : elemSz Tryz.prog 89 = some (91, 3) := by kernel_rfl
theorem es119 : elemSz Tryz.prog 119 = some (3, 1) := by kernel_rfl
theorem fd91 : flatDs Tryz.prog 91 = some [.int .i64, .int .i64, .int .i64] := by kernel_rfl
theorem fl30 : fieldsAt Tryz.prog 30 = some [(0, 1), (1, 1), (2, 1), (3, 1)] := by kernel_rfl
theorem fl53 : fieldsAt Tryz.prog 53 = some [(0, 1), (1, 1), (2, 1), (3, 1)] := by kernel_rfl
theorem fl58 : fieldsAt Tryz.prog 58 = some [(0, 1), (1, 1), (2, 1), (3, 1), (4, 1), (5, 1)] := by kernel_rfl
theorem fl62 : fieldsAt Tryz.prog 62 = some [(0, 1), (1, 1)] := by kernel_rfl
theorem fl68 : fieldsAt Tryz.prog 68 = some [(0, 1), (1, 1)] := by kernel_rfl
theorem fl78 : fieldsAt Tryz.prog 78 = some [(0, 1)] := by kernel_rfl
theorem fl80 : fieldsAt Tryz.prog 80 = some [(0, 1), (1, 1), (2, 1)] := by kernel_rfl
theorem fl91 : fieldsAt Tryz.prog 91 = some [(0, 1), (1, 1), (2, 1)] := by kernel_rfl
theorem fl94 : fieldsAt Tryz.prog 94 = some [(0, 1), (1, 1)] := by kernel_rfl
theorem fl99 : fieldsAt Tryz.prog 99 = some [(0, 1)] := by kernel_rfl
theorem fl159 : fieldsAt Tryz.prog 159 = some [(0, 1), (1, 1)] := by kernel_rfl
theorem fl164 : fieldsAt Tryz.prog 164 = some [(0, 1), (1, 1), (2, 1)] := by kernel_rfl
theorem fl212 : fieldsAt Tryz.prog 212 = some [(0, 1), (1, 1)] := by kernel_rfl
theorem fo30_0 : fieldOf Tryz.prog 30 0 = some (0, 25) := by kernel_rfl
theorem fo30_1 : fieldOf Tryz.prog 30 1 = some (1, 26) := by kernel_rfl
theorem fo30_2 : fieldOf Tryz.prog 30 2 = some (2, 27) := by kernel_rfl
theorem fo30_3 : fieldOf Tryz.prog 30 3 = some (3, 28) := by kernel_rfl
theorem fo53_0 : fieldOf Tryz.prog 53 0 = some (0, 3) := by kernel_rfl
theorem fo53_1 : fieldOf Tryz.prog 53 1 = some (1, 3) := by kernel_rfl
theorem fo53_3 : fieldOf Tryz.prog 53 3 = some (3, 3) := by kernel_rfl
theorem fo58_0 : fieldOf Tryz.prog 58 0 = some (0, 3) := by kernel_rfl
theorem fo58_1 : fieldOf Tryz.prog 58 1 = some (1, 3) := by kernel_rfl
theorem fo58_2 : fieldOf Tryz.prog 58 2 = some (2, 3) := by kernel_rfl
theorem fo58_3 : fieldOf Tryz.prog 58 3 = some (3, 3) := by kernel_rfl
theorem fo58_4 : fieldOf Tryz.prog 58 4 = some (4, 3) := by kernel_rfl
theorem fo58_5 : fieldOf Tryz.prog 58 5 = some (5, 3) := by kernel_rfl
theorem fo62_0 : fieldOf Tryz.prog 62 0 = some (0, 22) := by kernel_rfl
theorem fo62_1 : fieldOf Tryz.prog 62 1 = some (1, 4) := by kernel_rfl
theorem fo68_0 : fieldOf Tryz.prog 68 0 = some (0, 22) := by kernel_rfl
theorem fo68_1 : fieldOf Tryz.prog 68 1 = some (1, 22) := by kernel_rfl
theorem fo78_0 : fieldOf Tryz.prog 78 0 = some (0, 33) := by kernel_rfl
theorem fo80_0 : fieldOf Tryz.prog 80 0 = some (0, 76) := by kernel_rfl
theorem fo80_1 : fieldOf Tryz.prog 80 1 = some (1, 76) := by kernel_rfl
theorem fo80_2 : fieldOf Tryz.prog 80 2 = some (2, 76) := by kernel_rfl
theorem fo82_0 : fieldOf Tryz.prog 82 0 = some (0, 3) := by kernel_rfl
theorem fo82_1 : fieldOf Tryz.prog 82 1 = some (1, 22) := by kernel_rfl
theorem fo82_2 : fieldOf Tryz.prog 82 2 = some (2, 22) := by kernel_rfl
theorem fo91_0 : fieldOf Tryz.prog 91 0 = some (0, 3) := by kernel_rfl
theorem fo91_1 : fieldOf Tryz.prog 91 1 = some (1, 3) := by kernel_rfl
theorem fo91_2 : fieldOf Tryz.prog 91 2 = some (2, 3) := by kernel_rfl
theorem fo94_0 : fieldOf Tryz.prog 94 0 = some (0, 23) := by kernel_rfl
theorem fo94_1 : fieldOf Tryz.prog 94 1 = some (1, 3) := by kernel_rfl
theorem fo99_0 : fieldOf Tryz.prog 99 0 = some (0, 23) := by kernel_rfl
theorem fo159_0 : fieldOf Tryz.prog 159 0 = some (0, 23) := by kernel_rfl
theorem fo159_1 : fieldOf Tryz.prog 159 1 = some (1, 22) := by kernel_rfl
theorem fo164_0 : fieldOf Tryz.prog 164 0 = some (0, 5) := by kernel_rfl
theorem fo164_1 : fieldOf Tryz.prog 164 1 = some (1, 3) := by kernel_rfl
theorem fo212_0 : fieldOf Tryz.prog 212 0 = some (0, 23) := by kernel_rfl
theorem fo212_1 : fieldOf Tryz.prog 212 1 = some (1, 22) := by kernel_rfl
theorem mt25 : MapT Tryz.prog 25 9 62 (.string) := ⟨by kernel_rfl, by kernel_rfl⟩
theorem mt27 : MapT Tryz.prog 27 9 22 (.string) := ⟨by kernel_rfl, by kernel_rfl⟩
theorem mt215 : MapT Tryz.prog 215 3 3 (.int .i64) := ⟨by kernel_rfl, by kernel_rfl⟩
theorem of3 (c : AV) (cs : List AV) (K : AV → Prop) : ofCells Tryz.prog 3 (c :: cs) K = K (val c) := ofCells_one (by kernel_rfl) c cs K
theorem of4 (c : AV) (cs : List AV) (K : AV → Prop) : ofCells Tryz.prog 4 (c :: cs) K = K (val c) := ofCells_one (by kernel_rfl) c cs K
theorem of5 (c : AV) (cs : List AV) (K : AV → Prop) : ofCells Tryz.prog 5 (c :: cs) K = K (val c) := ofCells_one (by kernel_rfl) c cs K
theorem of9 (c : AV) (cs : List AV) (K : AV → Prop) : ofCells Tryz.prog 9 (c :: cs) K = K (val c) := ofCells_one (by kernel_rfl) c cs K
theorem of22 (c : AV) (cs : List AV) (K : AV → Prop) : ofCells Tryz.prog 22 (c :: cs) K = K (val c) := ofCells_one (by kernel_rfl) c cs K
theorem of23 (c : AV) (cs : List AV) (K : AV → Prop) : ofCells Tryz.prog 23 (c :: cs) K = K (val c) := ofCells_one (by kernel_rfl) c cs K
theorem of25 (c : AV) (cs : List AV) (K : AV → Prop) : ofCells Tryz.prog 25 (c :: cs) K = K (val c) := ofCells_one (by kernel_rfl) c cs K
theorem of26 (c : AV) (cs : List AV) (K : AV → Prop) : ofCells Tryz.prog 26 (c :: cs) K = K (val c) := ofCells_one (by kernel_rfl) c cs K
theorem of27 (c : AV) (cs : List AV) (K : AV → Prop) : ofCells Tryz.prog 27 (c :: cs) K = K (val c) := ofCells_one (by kernel_rfl) c cs K
theorem of28 (c : AV) (cs : List AV) (K : AV → Prop) : ofCells Tryz.prog 28 (c :: cs) K = K (val c) := ofCells_one (by kernel_rfl) c cs K
theorem of33 (c : AV) (cs : List AV) (K : AV → Prop) : ofCells Tryz.prog 33 (c :: cs) K = K (val c) := ofCells_one (by kernel_rfl) c cs K
theorem of51 (c : AV) (cs : List AV) (K : AV → Prop) : ofCells Tryz.prog 51 (c :: cs) K = K (val c) := ofCells_one (by kernel_rfl) c cs K
theorem of53 (cs : List AV) (K : AV → Prop) : ofCells Tryz.prog 53 cs K = (4 ≤ cs.length ∧ K (.agg (cs.take 4))) := ofCells_agg (by kernel_rfl) cs K
theorem of58 (cs : List AV) (K : AV → Prop) : ofCells Tryz.prog 58 cs K = (6 ≤ cs.length ∧ K (.agg (cs.take 6))) := ofCells_agg (by kernel_rfl) cs K
theorem of62 (cs : List AV) (K : AV → Prop) : ofCells Tryz.prog 62 cs K = (2 ≤ cs.length ∧ K (.agg (cs.take 2))) := ofCells_agg (by kernel_rfl) cs K
theorem of68 (cs : List AV) (K : AV → Prop) : ofCells Tryz.prog 68 cs K = (2 ≤ cs.length ∧ K (.agg (cs.take 2))) := ofCells_agg (by kernel_rfl) cs K
theorem of76 (c : AV) (cs : List AV) (K : AV → Prop) : ofCells Tryz.prog 76 (c :: cs) K = K (val c) := ofCells_one (by kernel_rfl) c cs K
theorem of82 (cs : List AV) (K : AV → Prop) : ofCells Tryz.prog 82 cs K = (3 ≤ cs.length ∧ K (.agg (cs.take 3))) := ofCells_agg (by kernel_rfl) cs K
theorem of91 (cs : List AV) (K : AV → Prop) : ofCells Tryz.prog 91 cs K = (3 ≤ cs.length ∧ K (.agg (cs.take 3))) := ofCells_agg (by kernel_rfl) cs K
theorem of94 (cs : List AV) (K : AV → Prop) : ofCells Tryz.prog 94 cs K = (2 ≤ cs.length ∧ K (.agg (cs.take 2))) := ofCells_agg (by kernel_rfl) cs K
theorem of99 (cs : List AV) (K : AV → Prop) : ofCells Tryz.prog 99 cs K = (1 ≤ cs.length ∧ K (.agg (cs.take 1))) := ofCells_agg (by kernel_rfl) cs K
theorem of159 (cs : List AV) (K : AV → Prop) : ofCells Tryz.prog 159 cs K = (2 ≤ cs.length ∧ K (.agg (cs.take 2))) := ofCells_agg (by kernel_rfl) cs K
theorem of164 (cs : List AV) (K : AV → Prop) : ofCells Tryz.prog 164 cs K = (3 ≤ cs.length ∧ K (.agg (cs.take 3))) := ofCells_agg (by kernel_rfl) cs K
theorem of212 (cs : List AV) (K : AV → Prop) : ofCells Tryz.prog 212 cs K = (2 ≤ cs.length ∧ K (.agg (cs.take 2))) := ofCells_agg (by kernel_rfl) cs K
theorem sz3 : szT Tryz.prog 3 = some 1 := by kernel_rfl
theorem sz28 : szT Tryz.prog 28 = some 1 := by kernel_rfl
theorem sz33 : szT Tryz.prog 33 = some 1 := by kernel_rfl
theorem sz53 : szT Tryz.prog 53 = some 4 := by kernel_rfl
theorem sz62 : szT Tryz.prog 62 = some 2 := by kernel_rfl
theorem sz68 : szT Tryz.prog 68 = some 2 := by kernel_rfl
theorem sz76 : szT Tryz.prog 76 = some 1 := by kernel_rfl
theorem sz82 : szT Tryz.prog 82 = some 3 := by kernel_rfl
theorem sz91 : szT Tryz.prog 91 = some 3 := by kernel_rfl
theorem sz94 : szT Tryz.prog 94 = some 2 := by kernel_rfl
theorem sz159 : szT Tryz.prog 159 = some 2 := by kernel_rfl
theorem sz164 : szT Tryz.prog 164 = some 3 := by kernel_rfl
theorem sz212 : szT Tryz.prog 212 = some 2 := by kernel_rfl
theorem z3 : (Tryz.prog.info? 3).bind (·.zero) = some (.int .i64 0) := by kernel_rfl
theorem z5 : (Tryz.prog.info? 5).bind (·.zero) = some (.int .u8 0) := by kernel_rfl
theorem z22 : (Tryz.prog.info? 22).bind (·.zero) = some (.slice none 0 0) := by kernel_rfl
theorem z30 : (Tryz.prog.info? 30).bind (·.zero) = some (.agg #[.map none, .pointer none, .map none, .int .i64 0]) := by kernel_rfl
theorem z53 : (Tryz.prog.info? 53).bind (·.zero) = some (.agg #[.int .i64 0, .int .i64 0, .int .i64 0, .int .i64 0]) := by kernel_rfl
theorem z58 : (Tryz.prog.info? 58).bind (·.zero) = some (.agg #[.int .i64 0, .int .i64 0, .int .i64 0, .int .i64 0, .int .i64 0, .int .i64 0]) := by kernel_rfl
theorem z62 : (Tryz.prog.info? 62).bind (·.zero) = some (.agg #[.slice none 0 0, .bool false]) := by kernel_rfl
theorem z68 : (Tryz.prog.info? 68).bind (·.zero) = some (.agg #[.slice none 0 0, .slice none 0 0]) := by kernel_rfl
theorem z78 : (Tryz.prog.info? 78).bind (·.zero) = some (.agg #[.slice none 0 0]) := by kernel_rfl
theorem z80 : (Tryz.prog.info? 80).bind (·.zero) = some (.agg #[.pointer none, .pointer none, .pointer none]) := by kernel_rfl
theorem z82 : (Tryz.prog.info? 82).bind (·.zero) = some (.agg #[.int .i64 0, .slice none 0 0, .slice none 0 0]) := by kernel_rfl
theorem z91 : (Tryz.prog.info? 91).bind (·.zero) = some (.agg #[.int .i64 0, .int .i64 0, .int .i64 0]) := by kernel_rfl
theorem z94 : (Tryz.prog.info? 94).bind (·.zero) = some (.agg #[.pointer none, .int .i64 0]) := by kernel_rfl
theorem z99 : (Tryz.prog.info? 99).bind (·.zero) = some (.agg #[.pointer none]) := by kernel_rfl
theorem z159 : (Tryz.prog.info? 159).bind (·.zero) = some (.agg #[.pointer none, .slice none 0 0]) := by kernel_rfl
theorem z164 : (Tryz.prog.info? 164).bind (·.zero) = some (.agg #[.int .u8 0, .int .i64 0, .int .i64 0]) := by kernel_rfl
theorem z212 : (Tryz.prog.info? 212).bind (·.zero) = some (.agg #[.pointer none, .slice none 0 0]) := by kernel_rfl
theorem zr3 : ((Tryz.prog.info? 3).any fun i => i.zero.isSome) = true := by kernel_rfl
theorem zr5 : ((Tryz.prog.info? 5).any fun i => i.zero.isSome) = true := by kernel_rfl
theorem zr9 : ((Tryz.prog.info? 9).any fun i => i.zero.isSome) = true := by kernel_rfl
theorem zr22 : ((Tryz.prog.info? 22).any fun i => i.zero.isSome) = true := by kernel_rfl
theorem zr51 : ((Tryz.prog.info? 51).any fun i => i.zero.isSome) = true := by kernel_rfl
theorem zr53 : ((Tryz.prog.info? 53).any fun i => i.zero.isSome) = true := by kernel_rfl
theorem zr68 : ((Tryz.prog.info? 68).any fun i => i.zero.isSome) = true := by kernel_rfl
theorem zr91 : ((Tryz.prog.info? 91).any fun i => i.zero.isSome) = true := by kernel_rfl
theorem al30 (K : AV → Prop) : awpAlloc ((Tryz.prog.info? 30).bind (·.zero)) K = K (.box [.v (.map none), .v (.pointer none), .v (.map none), .v (.int .i64 0)]) := alloc_eq z30 rfl rfl K
theorem al53 (K : AV → Prop) : awpAlloc ((Tryz.prog.info? 53).bind (·.zero)) K = K (.box [.v (.int .i64 0), .v (.int .i64 0), .v (.int .i64 0), .v (.int .i64 0)]) := alloc_eq z53 rfl rfl K
theorem al62 (K : AV → Prop) : awpAlloc ((Tryz.prog.info? 62).bind (·.zero)) K = K (.box [.v (.slice none 0 0), .v (.bool false)]) := alloc_eq z62 rfl rfl K
theorem al68 (K : AV → Prop) : awpAlloc ((Tryz.prog.info? 68).bind (·.zero)) K = K (.box [.v (.slice none 0 0), .v (.slice none 0 0)]) := alloc_eq z68 rfl rfl K
theorem al82 (K : AV → Prop) : awpAlloc ((Tryz.prog.info? 82).bind (·.zero)) K = K (.box [.v (.int .i64 0), .v (.slice none 0 0), .v (.slice none 0 0)]) := alloc_eq z82 rfl rfl K
theorem al91 (K : AV → Prop) : awpAlloc ((Tryz.prog.info? 91).bind (·.zero)) K = K (.box [.v (.int .i64 0), .v (.int .i64 0), .v (.int .i64 0)]) := alloc_eq z91 rfl rfl K
theorem al94 (K : AV → Prop) : awpAlloc ((Tryz.prog.info? 94).bind (·.zero)) K = K (.box [.v (.pointer none), .v (.int .i64 0)]) := alloc_eq z94 rfl rfl K
theorem al164 (K : AV → Prop) : awpAlloc ((Tryz.prog.info? 164).bind (·.zero)) K = K (.box [.v (.int .u8 0), .v (.int .i64 0), .v (.int .i64 0)]) := alloc_eq z164 rfl rfl K
theorem al212 (K : AV → Prop) : awpAlloc ((Tryz.prog.info? 212).bind (·.zero)) K = K (.box [.v (.pointer none), .v (.slice none 0 0)]) := alloc_eq z212 rfl rfl K
theorem bd53 (parts : List (Nat × AV)) (K : AV → Prop) : awpBuild Tryz.prog 53 parts K = bldE [(0, 1), (1, 1), (2, 1), (3, 1)] [.v (.int .i64 0), .v (.int .i64 0), .v (.int .i64 0), .v (.int .i64 0)] K parts := build_eq fl53 z53 rfl parts K
theorem bd58 (parts : List (Nat × AV)) (K : AV → Prop) : awpBuild Tryz.prog 58 parts K = bldE [(0, 1), (1, 1), (2, 1), (3, 1), (4, 1), (5, 1)] [.v (.int .i64 0), .v (.int .i64 0), .v (.int .i64 0), .v (.int .i64 0), .v (.int .i64 0), .v (.int .i64 0)] K parts := build_eq fl58 z58 rfl parts K
theorem bd62 (parts : List (Nat × AV)) (K : AV → Prop) : awpBuild Tryz.prog 62 parts K = bldE [(0, 1), (1, 1)] [.v (.slice none 0 0), .v (.bool false)] K parts := build_eq fl62 z62 rfl parts K
theorem bd68 (parts : List (Nat × AV)) (K : AV → Prop) : awpBuild Tryz.prog 68 parts K = bldE [(0, 1), (1, 1)] [.v (.slice none 0 0), .v (.slice none 0 0)] K parts := build_eq fl68 z68 rfl parts K
theorem bd78 (parts : List (Nat × AV)) (K : AV → Prop) : awpBuild Tryz.prog 78 parts K = bldE [(0, 1)] [.v (.slice none 0 0)] K parts := build_eq fl78 z78 rfl parts K
theorem bd80 (parts : List (Nat × AV)) (K : AV → Prop) : awpBuild Tryz.prog 80 parts K = bldE [(0, 1), (1, 1), (2, 1)] [.v (.pointer none), .v (.pointer none), .v (.pointer none)] K parts := build_eq fl80 z80 rfl parts K
theorem bd91 (parts : List (Nat × AV)) (K : AV → Prop) : awpBuild Tryz.prog 91 parts K = bldE [(0, 1), (1, 1), (2, 1)] [.v (.int .i64 0), .v (.int .i64 0), .v (.int .i64 0)] K parts := build_eq fl91 z91 rfl parts K
theorem bd94 (parts : List (Nat × AV)) (K : AV → Prop) : awpBuild Tryz.prog 94 parts K = bldE [(0, 1), (1, 1)] [.v (.pointer none), .v (.int .i64 0)] K parts := build_eq fl94 z94 rfl parts K
theorem bd99 (parts : List (Nat × AV)) (K : AV → Prop) : awpBuild Tryz.prog 99 parts K = bldE [(0, 1)] [.v (.pointer none)] K parts := build_eq fl99 z99 rfl parts K
theorem bd164 (parts : List (Nat × AV)) (K : AV → Prop) : awpBuild Tryz.prog 164 parts K = bldE [(0, 1), (1, 1), (2, 1)] [.v (.int .u8 0), .v (.int .i64 0), .v (.int .i64 0)] K parts := build_eq fl164 z164 rfl parts K
theorem bd212 (parts : List (Nat × AV)) (K : AV → Prop) : awpBuild Tryz.prog 212 parts K = bldE [(0, 1), (1, 1)] [.v (.pointer none), .v (.slice none 0 0)] K parts := build_eq fl212 z212 rfl parts K
theorem q3 : type_of% (And.intro (And.intro al30 Tryz.underlying33) (And.intro Tryz.underlying34 Tryz.results3)) := (And.intro (And.intro al30 Tryz.underlying33) (And.intro Tryz.underlying34 Tryz.results3))
theorem q4 : type_of% Tryz.results4 := Tryz.results4
theorem q5 : type_of% (And.intro (And.intro (And.intro Tryz.underlying49 (And.intro es49 as49)) (And.intro (And.intro of51 Tryz.underlying51) (And.intro es51 as51))) (And.intro (And.intro (And.intro fo53_3 of3) (And.intro fo53_1 bd53)) (And.intro (And.intro (fun tx => append_own (tx := tx) ei51) (fun tx => append_nil (tx := tx) ei51)) (And.intro bd58 Tryz.results5)))) := (And.intro (And.intro (And.intro Tryz.underlying49 (And.intro es49 as49)) (And.intro (And.intro of51 Tryz.underlying51) (And.intro es51 as51))) (And.intro (And.intro (And.intro fo53_3 of3) (And.intro fo53_1 bd53)) (And.intro (And.intro (fun tx => append_own (tx := tx) ei51) (fun tx => append_nil (tx := tx) ei51)) (And.intro bd58 Tryz.results5))))
theorem q6 : type_of% (And.intro (And.intro (And.intro fo30_3 (And.intro of28 fo30_0)) (And.intro of25 (And.intro (fun src => cvX_str (src := src) Tryz.underlying9) Tryz.underlying22))) (And.intro (And.intro al62 (And.intro sz62 fo62_1)) (And.intro (And.intro of4 fo62_0) (And.intro of22 Tryz.results6)))) := (And.intro (And.intro (And.intro fo30_3 (And.intro of28 fo30_0)) (And.intro of25 (And.intro (fun src => cvX_str (src := src) Tryz.underlying9) Tryz.underlying22))) (And.intro (And.intro al62 (And.intro sz62 fo62_1)) (And.intro (And.intro of4 fo62_0) (And.intro of22 Tryz.results6))))
theorem q7 : type_of% (And.intro (And.intro (And.intro (And.intro fo30_0 of25) (And.intro Tryz.underlying65 (And.intro es65 as65))) (And.intro (And.intro of9 al62) (And.intro sz62 (And.intro fo62_1 of4)))) (And.intro (And.intro (And.intro es34 (fun tx => append_own (tx := tx) ei34)) (And.intro (fun tx => append_nil (tx := tx) ei34) (And.intro fo62_0 of22))) (And.intro (And.intro bd68 es33) (And.intro (fun tx => append_own (tx := tx) ei33) (And.intro (fun tx => append_nil (tx := tx) ei33) Tryz.results7))))) := (And.intro (And.intro (And.intro (And.intro fo30_0 of25) (And.intro Tryz.underlying65 (And.intro es65 as65))) (And.intro (And.intro of9 al62) (And.intro sz62 (And.intro fo62_1 of4)))) (And.intro (And.intro (And.intro es34 (fun tx => append_own (tx := tx) ei34)) (And.intro (fun tx => append_nil (tx := tx) ei34) (And.intro fo62_0 of22))) (And.intro (And.intro bd68 es33) (And.intro (fun tx => append_own (tx := tx) ei33) (And.intro (fun tx => append_nil (tx := tx) ei33) Tryz.results7)))))
theorem q8 : type_of% (And.intro (And.intro fo30_0 of25) (And.intro fo30_3 (And.intro sz28 Tryz.results8))) := (And.intro (And.intro fo30_0 of25) (And.intro fo30_3 (And.intro sz28 Tryz.results8)))
theorem q9 : type_of% (And.intro (And.intro Tryz.underlying22 (And.intro fo30_0 of25)) (And.intro (fun src => cvX_str (src := src) Tryz.underlying9) (And.intro bd62 Tryz.results9))) := (And.intro (And.intro Tryz.underlying22 (And.intro fo30_0 of25)) (And.intro (fun src => cvX_str (src := src) Tryz.underlying9) (And.intro bd62 Tryz.results9)))
theorem q10 : type_of% (And.intro (And.intro fo30_0 (And.intro of25 (fun src => cvX_str (src := src) Tryz.underlying9))) (And.intro Tryz.underlying22 (And.intro bd62 Tryz.results10))) := (And.intro (And.intro fo30_0 (And.intro of25 (fun src => cvX_str (src := src) Tryz.underlying9))) (And.intro Tryz.underlying22 (And.intro bd62 Tryz.results10)))
theorem q11 : type_of% (And.intro (And.intro (And.intro (And.intro of23 fo30_3) (And.intro of28 fo30_0)) (And.intro (And.intro of25 al62) (And.intro sz62 fo62_1))) (And.intro (And.intro (And.intro of4 fo62_0) (And.intro of22 bd68)) (And.intro (And.intro es33 (fun tx => append_own (tx := tx) ei33)) (And.intro (fun tx => append_nil (tx := tx) ei33) Tryz.results11)))) := (And.intro (And.intro (And.intro (And.intro of23 fo30_3) (And.intro of28 fo30_0)) (And.intro (And.intro of25 al62) (And.intro sz62 fo62_1))) (And.intro (And.intro (And.intro of4 fo62_0) (And.intro of22 bd68)) (And.intro (And.intro es33 (fun tx => append_own (tx := tx) ei33)) (And.intro (fun tx => append_nil (tx := tx) ei33) Tryz.results11))))
theorem q12 : type_of% (And.intro (And.intro fo30_3 (And.intro of28 fo30_1)) (And.intro (And.intro of26 fo30_0) (And.intro of25 Tryz.results12))) := (And.intro (And.intro fo30_3 (And.intro of28 fo30_1)) (And.intro (And.intro of26 fo30_0) (And.intro of25 Tryz.results12)))
theorem q13 : type_of% (And.intro fo30_3 (And.intro of28 Tryz.results13)) := (And.intro fo30_3 (And.intro of28 Tryz.results13))
theorem q14 : type_of% (And.intro (And.intro es22 Tryz.underlying34) (And.intro (fun src => cvX_str (src := src) Tryz.underlying9) (And.intro Tryz.underlying22 Tryz.results14))) := (And.intro (And.intro es22 Tryz.underlying34) (And.intro (fun src => cvX_str (src := src) Tryz.underlying9) (And.intro Tryz.underlying22 Tryz.results14)))
theorem q17 : type_of% (And.intro (And.intro (And.intro Tryz.underlying43 (And.intro es43 as43)) (And.intro of82 (And.intro al82 sz82))) (And.intro (And.intro fo82_1 (And.intro of22 Tryz.underlying22)) (And.intro (And.intro fo82_2 fo82_0) (And.intro of3 Tryz.results17)))) := (And.intro (And.intro (And.intro Tryz.underlying43 (And.intro es43 as43)) (And.intro of82 (And.intro al82 sz82))) (And.intro (And.intro fo82_1 (And.intro of22 Tryz.underlying22)) (And.intro (And.intro fo82_2 fo82_0) (And.intro of3 Tryz.results17))))
theorem q18 : type_of% (And.intro (And.intro bd58 (And.intro bd53 es51)) (And.intro bd91 (And.intro es89 Tryz.results18))) := (And.intro (And.intro bd58 (And.intro bd53 es51)) (And.intro bd91 (And.intro es89 Tryz.results18)))
theorem q20 : type_of% (And.intro (And.intro es51 (fun tx => append_own (tx := tx) ei51)) (And.intro (fun tx => append_nil (tx := tx) ei51) Tryz.results20)) := (And.intro (And.intro es51 (fun tx => append_own (tx := tx) ei51)) (And.intro (fun tx => append_nil (tx := tx) ei51) Tryz.results20))
theorem q21 : type_of% (And.intro (And.intro Tryz.underlying51 bd99) (And.intro of58 Tryz.results21)) := (And.intro (And.intro Tryz.underlying51 bd99) (And.intro of58 Tryz.results21))
theorem q22 : type_of% (And.intro (And.intro (And.intro Tryz.underlying89 es89) (And.intro as89 (And.intro of91 al91))) (And.intro (And.intro sz91 fo91_1) (And.intro of3 (And.intro fo91_2 Tryz.results22)))) := (And.intro (And.intro (And.intro Tryz.underlying89 es89) (And.intro as89 (And.intro of91 al91))) (And.intro (And.intro sz91 fo91_1) (And.intro of3 (And.intro fo91_2 Tryz.results22))))
theorem q23 : type_of% (And.intro fo30_0 (And.intro of25 Tryz.results23)) := (And.intro fo30_0 (And.intro of25 Tryz.results23))
theorem q26 : type_of% (And.intro (And.intro es65 (fun tx => append_own (tx := tx) ei65)) (And.intro (fun tx => append_nil (tx := tx) ei65) Tryz.results26)) := (And.intro (And.intro es65 (fun tx => append_own (tx := tx) ei65)) (And.intro (fun tx => append_nil (tx := tx) ei65) Tryz.results26))
theorem q35 : type_of% (And.intro (And.intro (And.intro fo30_0 of25) (And.intro al62 (And.intro sz62 fo62_1))) (And.intro (And.intro of4 (And.intro fo30_2 of27)) (And.intro fo62_0 (And.intro of22 Tryz.results35)))) := (And.intro (And.intro (And.intro fo30_0 of25) (And.intro al62 (And.intro sz62 fo62_1))) (And.intro (And.intro of4 (And.intro fo30_2 of27)) (And.intro fo62_0 (And.intro of22 Tryz.results35))))
theorem q39 : type_of% (And.intro (And.intro fo80_1 of76) (And.intro fo80_2 Tryz.results39)) := (And.intro (And.intro fo80_1 of76) (And.intro fo80_2 Tryz.results39))
theorem q43 : type_of% (And.intro (And.intro (And.intro fo80_1 of76) (And.intro fo78_0 of33)) (And.intro (And.intro bd78 fo80_0) (And.intro sz76 (And.intro fo80_2 Tryz.results43)))) := (And.intro (And.intro (And.intro fo80_1 of76) (And.intro fo78_0 of33)) (And.intro (And.intro bd78 fo80_0) (And.intro sz76 (And.intro fo80_2 Tryz.results43))))
theorem q44 : type_of% (And.intro (And.intro (And.intro fo80_0 of76) (And.intro fo78_0 of33)) (And.intro (And.intro bd78 fo80_1) (And.intro sz76 (And.intro fo80_2 Tryz.results44)))) := (And.intro (And.intro (And.intro fo80_0 of76) (And.intro fo78_0 of33)) (And.intro (And.intro bd78 fo80_1) (And.intro sz76 (And.intro fo80_2 Tryz.results44))))
theorem q45 : type_of% (And.intro (And.intro (And.intro (And.intro fo80_2 of76) (And.intro fo78_0 (And.intro of33 Tryz.underlying33))) (And.intro (And.intro es33 as33) (And.intro fo68_0 (And.intro of22 fo80_0)))) (And.intro (And.intro (And.intro fo80_1 (fun src => cvX_str (src := src) Tryz.underlying9)) (And.intro Tryz.underlying22 (And.intro bd68 (fun tx => append_own (tx := tx) ei33)))) (And.intro (And.intro (fun tx => append_nil (tx := tx) ei33) es34) (And.intro (fun tx => append_own (tx := tx) ei34) (And.intro (fun tx => append_nil (tx := tx) ei34) Tryz.results45))))) := (And.intro (And.intro (And.intro (And.intro fo80_2 of76) (And.intro fo78_0 (And.intro of33 Tryz.underlying33))) (And.intro (And.intro es33 as33) (And.intro fo68_0 (And.intro of22 fo80_0)))) (And.intro (And.intro (And.intro fo80_1 (fun src => cvX_str (src := src) Tryz.underlying9)) (And.intro Tryz.underlying22 (And.intro bd68 (fun tx => append_own (tx := tx) ei33)))) (And.intro (And.intro (fun tx => append_nil (tx := tx) ei33) es34) (And.intro (fun tx => append_own (tx := tx) ei34) (And.intro (fun tx => append_nil (tx := tx) ei34) Tryz.results45)))))
theorem q46 : type_of% Tryz.results46 := Tryz.results46
theorem q47 : type_of% Tryz.results47 := Tryz.results47
theorem q48 : type_of% Tryz.results48 := Tryz.results48
theorem q49 : type_of% (And.intro (And.intro Tryz.underlying89 es89) (And.intro as89 (And.intro of91 Tryz.results49))) := (And.intro (And.intro Tryz.underlying89 es89) (And.intro as89 (And.intro of91 Tryz.results49)))
theorem q50 : type_of% (And.intro (And.intro (And.intro (And.intro Tryz.underlying51 es51) (And.intro as51 of53)) (And.intro (And.intro al53 sz53) (And.intro Tryz.underlying89 (And.intro es89 as89)))) (And.intro (And.intro (And.intro fo91_0 of3) (And.intro fo53_0 bd91)) (And.intro (And.intro (fun tx => append_own (tx := tx) ei89) (fun tx => append_nil (tx := tx) ei89)) (And.intro of91 (And.intro sz91 Tryz.results50))))) := (And.intro (And.intro (And.intro (And.intro Tryz.underlying51 es51) (And.intro as51 of53)) (And.intro (And.intro al53 sz53) (And.intro Tryz.underlying89 (And.intro es89 as89)))) (And.intro (And.intro (And.intro fo91_0 of3) (And.intro fo53_0 bd91)) (And.intro (And.intro (fun tx => append_own (tx := tx) ei89) (fun tx => append_nil (tx := tx) ei89)) (And.intro of91 (And.intro sz91 Tryz.results50)))))
theorem q54 : type_of% (And.intro (And.intro (And.intro (And.intro fo99_0 of23) (And.intro fo58_1 of3)) (And.intro (And.intro Tryz.underlying51 es51) (And.intro as51 of53))) (And.intro (And.intro (And.intro al53 sz53) (And.intro of99 fo58_0)) (And.intro (And.intro sz3 fo58_3) (And.intro fo58_5 (And.intro of58 Tryz.results54))))) := (And.intro (And.intro (And.intro (And.intro fo99_0 of23) (And.intro fo58_1 of3)) (And.intro (And.intro Tryz.underlying51 es51) (And.intro as51 of53))) (And.intro (And.intro (And.intro al53 sz53) (And.intro of99 fo58_0)) (And.intro (And.intro sz3 fo58_3) (And.intro fo58_5 (And.intro of58 Tryz.results54)))))
theorem q55 : type_of% (And.intro es49 Tryz.results55) := (And.intro es49 Tryz.results55)
theorem q70 : type_of% (And.intro (And.intro (And.intro fo78_0 (And.intro of33 Tryz.underlying33)) (And.intro (And.intro es33 as33) (And.intro fo68_0 of22))) (And.intro (And.intro (fun src => cvX_str (src := src) Tryz.underlying9) (And.intro Tryz.underlying22 of68)) (And.intro (And.intro (fun tx => append_own (tx := tx) ei33) (fun tx => append_nil (tx := tx) ei33)) (And.intro sz33 Tryz.results70)))) := (And.intro (And.intro (And.intro fo78_0 (And.intro of33 Tryz.underlying33)) (And.intro (And.intro es33 as33) (And.intro fo68_0 of22))) (And.intro (And.intro (fun src => cvX_str (src := src) Tryz.underlying9) (And.intro Tryz.underlying22 of68)) (And.intro (And.intro (fun tx => append_own (tx := tx) ei33) (fun tx => append_nil (tx := tx) ei33)) (And.intro sz33 Tryz.results70))))
theorem q74 : type_of% (And.intro (And.intro Tryz.underlying34 es34) (And.intro as34 (And.intro of22 Tryz.results74))) := (And.intro (And.intro Tryz.underlying34 es34) (And.intro as34 (And.intro of22 Tryz.results74)))
theorem q75 : type_of% (And.intro (And.intro (And.intro (And.intro es119 Tryz.underlying33) (And.intro es33 as33)) (And.intro (And.intro of68 al68) (And.intro sz68 (And.intro fo68_0 of22)))) (And.intro (And.intro (And.intro fo68_1 Tryz.underlying119) (And.intro as119 of3)) (And.intro (And.intro bd53 es51) (And.intro (fun tx => append_own (tx := tx) ei51) (And.intro (fun tx => append_nil (tx := tx) ei51) Tryz.results75))))) := (And.intro (And.intro (And.intro (And.intro es119 Tryz.underlying33) (And.intro es33 as33)) (And.intro (And.intro of68 al68) (And.intro sz68 (And.intro fo68_0 of22)))) (And.intro (And.intro (And.intro fo68_1 Tryz.underlying119) (And.intro as119 of3)) (And.intro (And.intro bd53 es51) (And.intro (fun tx => append_own (tx := tx) ei51) (And.intro (fun tx => append_nil (tx := tx) ei51) Tryz.results75)))))
theorem q76 : type_of% (And.intro (And.intro (And.intro Tryz.underlying51 es51) (And.intro as51 (And.intro of53 al53))) (And.intro (And.intro sz53 fo53_1) (And.intro of3 (And.intro fo53_3 Tryz.results76)))) := (And.intro (And.intro (And.intro Tryz.underlying51 es51) (And.intro as51 (And.intro of53 al53))) (And.intro (And.intro sz53 fo53_1) (And.intro of3 (And.intro fo53_3 Tryz.results76))))
theorem q77 : type_of% (And.intro (And.intro (And.intro of91 al91) (And.intro fo53_3 of3)) (And.intro (And.intro fo91_1 sz3) (And.intro fo91_2 (And.intro sz91 Tryz.results77)))) := (And.intro (And.intro (And.intro of91 al91) (And.intro fo53_3 of3)) (And.intro (And.intro fo91_1 sz3) (And.intro fo91_2 (And.intro sz91 Tryz.results77))))
theorem q83 : type_of% (And.intro (And.intro of99 of53) (And.intro fo99_0 (And.intro of23 Tryz.results83))) := (And.intro (And.intro of99 of53) (And.intro fo99_0 (And.intro of23 Tryz.results83)))
theorem q84 : type_of% (And.intro (And.intro fo99_0 (And.intro of23 fo68_0)) (And.intro of22 (And.intro fo68_1 Tryz.results84))) := (And.intro (And.intro fo99_0 (And.intro of23 fo68_0)) (And.intro of22 (And.intro fo68_1 Tryz.results84)))
theorem q85 : type_of% (And.intro (And.intro (And.intro of68 (And.intro al68 fo58_0)) (And.intro of3 (And.intro fo58_1 fo58_2))) (And.intro (And.intro fo58_3 (And.intro fo58_4 fo58_5)) (And.intro es119 (And.intro sz68 Tryz.results85)))) := (And.intro (And.intro (And.intro of68 (And.intro al68 fo58_0)) (And.intro of3 (And.intro fo58_1 fo58_2))) (And.intro (And.intro fo58_3 (And.intro fo58_4 fo58_5)) (And.intro es119 (And.intro sz68 Tryz.results85))))
theorem q86 : type_of% (And.intro (And.intro (And.intro Tryz.underlying49 es49) (And.intro as49 of51)) (And.intro (And.intro Tryz.underlying51 (fun tx => append_own (tx := tx) ei51)) (And.intro (fun tx => append_nil (tx := tx) ei51) Tryz.results86))) := (And.intro (And.intro (And.intro Tryz.underlying49 es49) (And.intro as49 of51)) (And.intro (And.intro Tryz.underlying51 (fun tx => append_own (tx := tx) ei51)) (And.intro (fun tx => append_nil (tx := tx) ei51) Tryz.results86)))
theorem q87 : type_of% (And.intro (And.intro (And.intro Tryz.underlying51 es51) (And.intro as51 of53)) (And.intro (And.intro al53 sz53) (And.intro (fun tx => append_own (tx := tx) ei51) (And.intro (fun tx => append_nil (tx := tx) ei51) Tryz.results87)))) := (And.intro (And.intro (And.intro Tryz.underlying51 es51) (And.intro as51 of53)) (And.intro (And.intro al53 sz53) (And.intro (fun tx => append_own (tx := tx) ei51) (And.intro (fun tx => append_nil (tx := tx) ei51) Tryz.results87))))
theorem q112 : type_of% (And.intro (And.intro es119 as119) (And.intro of3 Tryz.results112)) := (And.intro (And.intro es119 as119) (And.intro of3 Tryz.results112))
theorem q118 : type_of% (And.intro (And.intro (And.intro of68 al68) (And.intro fo53_0 of3)) (And.intro (And.intro fo53_1 fo53_3) (And.intro es119 (And.intro sz68 Tryz.results118)))) := (And.intro (And.intro (And.intro of68 al68) (And.intro fo53_0 of3)) (And.intro (And.intro fo53_1 fo53_3) (And.intro es119 (And.intro sz68 Tryz.results118))))
theorem q119 : type_of% (And.intro (And.intro (And.intro fo53_0 of3) (And.intro fo53_1 es119)) (And.intro (And.intro al212 sz212) (And.intro of212 (And.intro fo53_3 Tryz.results119)))) := (And.intro (And.intro (And.intro fo53_0 of3) (And.intro fo53_1 es119)) (And.intro (And.intro al212 sz212) (And.intro of212 (And.intro fo53_3 Tryz.results119))))
theorem q120 : type_of% (And.intro (And.intro of164 al164) (And.intro bd164 (And.intro sz164 Tryz.results120))) := (And.intro (And.intro of164 al164) (And.intro bd164 (And.intro sz164 Tryz.results120)))
theorem q123 : type_of% (And.intro (And.intro (And.intro Tryz.underlying51 (And.intro es51 as51)) (And.intro of53 (And.intro al53 sz53))) (And.intro (And.intro fo53_0 (And.intro of3 fo53_3)) (And.intro (And.intro bd53 (fun tx => append_own (tx := tx) ei51)) (And.intro (fun tx => append_nil (tx := tx) ei51) Tryz.results123)))) := (And.intro (And.intro (And.intro Tryz.underlying51 (And.intro es51 as51)) (And.intro of53 (And.intro al53 sz53))) (And.intro (And.intro fo53_0 (And.intro of3 fo53_3)) (And.intro (And.intro bd53 (fun tx => append_own (tx := tx) ei51)) (And.intro (fun tx => append_nil (tx := tx) ei51) Tryz.results123))))
theorem q124 : type_of% (And.intro (And.intro fo53_3 (And.intro of3 fo53_0)) (And.intro bd53 (And.intro es51 Tryz.results124))) := (And.intro (And.intro fo53_3 (And.intro of3 fo53_0)) (And.intro bd53 (And.intro es51 Tryz.results124)))
theorem q157 : type_of% (And.intro (And.intro of164 al164) (And.intro bd164 (And.intro sz164 Tryz.results157))) := (And.intro (And.intro of164 al164) (And.intro bd164 (And.intro sz164 Tryz.results157)))
theorem q158 : type_of% (And.intro (And.intro of212 al212) (And.intro bd212 (And.intro sz212 Tryz.results158))) := (And.intro (And.intro of212 al212) (And.intro bd212 (And.intro sz212 Tryz.results158)))
theorem q159 : type_of% Tryz.results159 := Tryz.results159
theorem q160 : type_of% (And.intro (And.intro fo212_0 of23) (And.intro fo212_1 (And.intro of22 Tryz.results160))) := (And.intro (And.intro fo212_0 of23) (And.intro fo212_1 (And.intro of22 Tryz.results160)))
theorem q161 : type_of% (And.intro (And.intro fo212_0 (And.intro of23 fo212_1)) (And.intro of22 (And.intro es119 Tryz.results161))) := (And.intro (And.intro fo212_0 (And.intro of23 fo212_1)) (And.intro of22 (And.intro es119 Tryz.results161)))
theorem q195 : type_of% Tryz.results195 := Tryz.results195
end Go.Proofs.Lx
