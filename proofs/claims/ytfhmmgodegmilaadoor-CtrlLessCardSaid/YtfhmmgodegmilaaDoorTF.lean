/- What the types of this program say: printed. -/
import Derived.Test.YtfhmmgodegmilaaDoorVmJ
import Derived.Test.YtfhmmgodegmilaaDoorVmX
import Derived.Test.YtfhmmgodegmilaaDoorProg
import Derived.KernelRfl
set_option linter.unusedSimpArgs false
set_option linter.unusedVariables false
namespace Go.Proofs
open Go.Vm

theorem as22 : arrSz Tryd.prog 22 = none := by kernel_rfl
theorem as26 : arrSz Tryd.prog 26 = some (4, 1) := by kernel_rfl
theorem as59 : arrSz Tryd.prog 59 = none := by kernel_rfl
theorem as69 : arrSz Tryd.prog 69 = none := by kernel_rfl
theorem bt22 : bytesT Tryd.prog 22 = true := by kernel_rfl
theorem cv3_5 (n : Int) (s' s : Slots) (K : AV → Slots → Prop) : awpCvX Tryd.prog 3 5 (.v (.int .i64 n), s') (.v (.int .i64 n)) (.v (.int .i64 n)) s K = K (.v (.int .u8 (IntKind.u8.wrap n))) s := cvi (d := .int .i64) (by kernel_rfl) (by kernel_rfl) n s' s K
theorem cv3_78 (n : Int) (s' s : Slots) (K : AV → Slots → Prop) : awpCvX Tryd.prog 3 78 (.v (.int .i64 n), s') (.v (.int .i64 n)) (.v (.int .i64 n)) s K = K (.v (.int .u64 (IntKind.u64.wrap n))) s := cvi (d := .int .i64) (by kernel_rfl) (by kernel_rfl) n s' s K
theorem cv5_3 (n : Int) (s' s : Slots) (K : AV → Slots → Prop) : awpCvX Tryd.prog 5 3 (.v (.int .u8 n), s') (.v (.int .u8 n)) (.v (.int .u8 n)) s K = K (.v (.int .i64 (IntKind.i64.wrap n))) s := cvi (d := .int .u8) (by kernel_rfl) (by kernel_rfl) n s' s K
theorem cv5_78 (n : Int) (s' s : Slots) (K : AV → Slots → Prop) : awpCvX Tryd.prog 5 78 (.v (.int .u8 n), s') (.v (.int .u8 n)) (.v (.int .u8 n)) s K = K (.v (.int .u64 (IntKind.u64.wrap n))) s := cvi (d := .int .u8) (by kernel_rfl) (by kernel_rfl) n s' s K
theorem cv33_3 (n : Int) (s' s : Slots) (K : AV → Slots → Prop) : awpCvX Tryd.prog 33 3 (.v (.int .u32 n), s') (.v (.int .u32 n)) (.v (.int .u32 n)) s K = K (.v (.int .i64 (IntKind.i64.wrap n))) s := cvi (d := .int .u32) (by kernel_rfl) (by kernel_rfl) n s' s K
theorem cv78_3 (n : Int) (s' s : Slots) (K : AV → Slots → Prop) : awpCvX Tryd.prog 78 3 (.v (.int .u64 n), s') (.v (.int .u64 n)) (.v (.int .u64 n)) s K = K (.v (.int .i64 (IntKind.i64.wrap n))) s := cvi (d := .int .u64) (by kernel_rfl) (by kernel_rfl) n s' s K
theorem cv78_5 (n : Int) (s' s : Slots) (K : AV → Slots → Prop) : awpCvX Tryd.prog 78 5 (.v (.int .u64 n), s') (.v (.int .u64 n)) (.v (.int .u64 n)) s K = K (.v (.int .u8 (IntKind.u8.wrap n))) s := cvi (d := .int .u64) (by kernel_rfl) (by kernel_rfl) n s' s K
theorem ei22 : elemIn Tryd.prog 22 = some (5, 1, 1) := by kernel_rfl
theorem ei59 : elemIn Tryd.prog 59 = some (3, 1, 8) := by kernel_rfl
theorem ei69 : elemIn Tryd.prog 69 = some (32, 12, 96) := by kernel_rfl
theorem es22 : elemSz Tryd.prog 22 = some (5, 1) := by kernel_rfl
theorem es59 : elemSz Tryd.prog 59 = some (3, 1) := by kernel_rfl
theorem es69 : elemSz Tryd.prog 69 = some (32, 12) := by kernel_rfl
theorem fl32 : fieldsAt Tryd.prog 32 = some [(0, 1), (1, 1), (2, 1), (3, 1), (4, 1), (5, 1), (6, 1), (7, 1), (8, 1), (9, 1), (10, 1), (11, 1)] := by kernel_rfl
theorem fl43 : fieldsAt Tryd.prog 43 = some [(0, 1), (1, 1), (2, 1), (3, 1)] := by kernel_rfl
theorem fl45 : fieldsAt Tryd.prog 45 = some [(0, 1), (1, 1)] := by kernel_rfl
theorem fl64 : fieldsAt Tryd.prog 64 = some [(0, 1), (1, 1)] := by kernel_rfl
theorem fl67 : fieldsAt Tryd.prog 67 = some [(0, 1), (1, 1)] := by kernel_rfl
theorem fl72 : fieldsAt Tryd.prog 72 = some [(0, 1), (1, 1), (2, 1)] := by kernel_rfl
theorem fl80 : fieldsAt Tryd.prog 80 = some [(0, 1), (1, 1), (2, 1)] := by kernel_rfl
theorem fl85 : fieldsAt Tryd.prog 85 = some [(0, 1), (1, 1)] := by kernel_rfl
theorem fo32_0 : fieldOf Tryd.prog 32 0 = some (0, 3) := by kernel_rfl
theorem fo32_1 : fieldOf Tryd.prog 32 1 = some (1, 3) := by kernel_rfl
theorem fo32_2 : fieldOf Tryd.prog 32 2 = some (2, 3) := by kernel_rfl
theorem fo32_3 : fieldOf Tryd.prog 32 3 = some (3, 3) := by kernel_rfl
theorem fo32_4 : fieldOf Tryd.prog 32 4 = some (4, 3) := by kernel_rfl
theorem fo32_5 : fieldOf Tryd.prog 32 5 = some (5, 4) := by kernel_rfl
theorem fo32_6 : fieldOf Tryd.prog 32 6 = some (6, 3) := by kernel_rfl
theorem fo32_7 : fieldOf Tryd.prog 32 7 = some (7, 3) := by kernel_rfl
theorem fo32_8 : fieldOf Tryd.prog 32 8 = some (8, 3) := by kernel_rfl
theorem fo32_9 : fieldOf Tryd.prog 32 9 = some (9, 3) := by kernel_rfl
theorem fo32_10 : fieldOf Tryd.prog 32 10 = some (10, 3) := by kernel_rfl
theorem fo32_11 : fieldOf Tryd.prog 32 11 = some (11, 3) := by kernel_rfl
theorem fo43_0 : fieldOf Tryd.prog 43 0 = some (0, 40) := by kernel_rfl
theorem fo43_1 : fieldOf Tryd.prog 43 1 = some (1, 38) := by kernel_rfl
theorem fo43_2 : fieldOf Tryd.prog 43 2 = some (2, 41) := by kernel_rfl
theorem fo43_3 : fieldOf Tryd.prog 43 3 = some (3, 27) := by kernel_rfl
theorem fo45_0 : fieldOf Tryd.prog 45 0 = some (0, 24) := by kernel_rfl
theorem fo45_1 : fieldOf Tryd.prog 45 1 = some (1, 22) := by kernel_rfl
theorem fo64_0 : fieldOf Tryd.prog 64 0 = some (0, 22) := by kernel_rfl
theorem fo64_1 : fieldOf Tryd.prog 64 1 = some (1, 4) := by kernel_rfl
theorem fo67_0 : fieldOf Tryd.prog 67 0 = some (0, 22) := by kernel_rfl
theorem fo67_1 : fieldOf Tryd.prog 67 1 = some (1, 22) := by kernel_rfl
theorem fo72_0 : fieldOf Tryd.prog 72 0 = some (0, 3) := by kernel_rfl
theorem fo72_1 : fieldOf Tryd.prog 72 1 = some (1, 3) := by kernel_rfl
theorem fo72_2 : fieldOf Tryd.prog 72 2 = some (2, 3) := by kernel_rfl
theorem fo80_0 : fieldOf Tryd.prog 80 0 = some (0, 5) := by kernel_rfl
theorem fo80_1 : fieldOf Tryd.prog 80 1 = some (1, 3) := by kernel_rfl
theorem fo80_2 : fieldOf Tryd.prog 80 2 = some (2, 3) := by kernel_rfl
theorem fo85_0 : fieldOf Tryd.prog 85 0 = some (0, 24) := by kernel_rfl
theorem fo85_1 : fieldOf Tryd.prog 85 1 = some (1, 3) := by kernel_rfl
theorem mt40 : MapT Tryd.prog 40 9 64 (.string) := ⟨by kernel_rfl, by kernel_rfl⟩
theorem mt41 : MapT Tryd.prog 41 9 22 (.string) := ⟨by kernel_rfl, by kernel_rfl⟩
theorem of3 (c : AV) (cs : List AV) (K : AV → Prop) : ofCells Tryd.prog 3 (c :: cs) K = K (val c) := ofCells_one (by kernel_rfl) c cs K
theorem of4 (c : AV) (cs : List AV) (K : AV → Prop) : ofCells Tryd.prog 4 (c :: cs) K = K (val c) := ofCells_one (by kernel_rfl) c cs K
theorem of5 (c : AV) (cs : List AV) (K : AV → Prop) : ofCells Tryd.prog 5 (c :: cs) K = K (val c) := ofCells_one (by kernel_rfl) c cs K
theorem of22 (c : AV) (cs : List AV) (K : AV → Prop) : ofCells Tryd.prog 22 (c :: cs) K = K (val c) := ofCells_one (by kernel_rfl) c cs K
theorem of24 (c : AV) (cs : List AV) (K : AV → Prop) : ofCells Tryd.prog 24 (c :: cs) K = K (val c) := ofCells_one (by kernel_rfl) c cs K
theorem of27 (c : AV) (cs : List AV) (K : AV → Prop) : ofCells Tryd.prog 27 (c :: cs) K = K (val c) := ofCells_one (by kernel_rfl) c cs K
theorem of32 (cs : List AV) (K : AV → Prop) : ofCells Tryd.prog 32 cs K = (12 ≤ cs.length ∧ K (.agg (cs.take 12))) := ofCells_agg (by kernel_rfl) cs K
theorem of38 (c : AV) (cs : List AV) (K : AV → Prop) : ofCells Tryd.prog 38 (c :: cs) K = K (val c) := ofCells_one (by kernel_rfl) c cs K
theorem of40 (c : AV) (cs : List AV) (K : AV → Prop) : ofCells Tryd.prog 40 (c :: cs) K = K (val c) := ofCells_one (by kernel_rfl) c cs K
theorem of41 (c : AV) (cs : List AV) (K : AV → Prop) : ofCells Tryd.prog 41 (c :: cs) K = K (val c) := ofCells_one (by kernel_rfl) c cs K
theorem of45 (cs : List AV) (K : AV → Prop) : ofCells Tryd.prog 45 cs K = (2 ≤ cs.length ∧ K (.agg (cs.take 2))) := ofCells_agg (by kernel_rfl) cs K
theorem of67 (cs : List AV) (K : AV → Prop) : ofCells Tryd.prog 67 cs K = (2 ≤ cs.length ∧ K (.agg (cs.take 2))) := ofCells_agg (by kernel_rfl) cs K
theorem of72 (cs : List AV) (K : AV → Prop) : ofCells Tryd.prog 72 cs K = (3 ≤ cs.length ∧ K (.agg (cs.take 3))) := ofCells_agg (by kernel_rfl) cs K
theorem of80 (cs : List AV) (K : AV → Prop) : ofCells Tryd.prog 80 cs K = (3 ≤ cs.length ∧ K (.agg (cs.take 3))) := ofCells_agg (by kernel_rfl) cs K
theorem of85 (cs : List AV) (K : AV → Prop) : ofCells Tryd.prog 85 cs K = (2 ≤ cs.length ∧ K (.agg (cs.take 2))) := ofCells_agg (by kernel_rfl) cs K
theorem sz3 : szT Tryd.prog 3 = some 1 := by kernel_rfl
theorem sz32 : szT Tryd.prog 32 = some 12 := by kernel_rfl
theorem sz45 : szT Tryd.prog 45 = some 2 := by kernel_rfl
theorem sz64 : szT Tryd.prog 64 = some 2 := by kernel_rfl
theorem sz67 : szT Tryd.prog 67 = some 2 := by kernel_rfl
theorem sz72 : szT Tryd.prog 72 = some 3 := by kernel_rfl
theorem sz80 : szT Tryd.prog 80 = some 3 := by kernel_rfl
theorem sz85 : szT Tryd.prog 85 = some 2 := by kernel_rfl
theorem z3 : (Tryd.prog.info? 3).bind (·.zero) = some (.int .i64 0) := by kernel_rfl
theorem z5 : (Tryd.prog.info? 5).bind (·.zero) = some (.int .u8 0) := by kernel_rfl
theorem z22 : (Tryd.prog.info? 22).bind (·.zero) = some (.slice none 0 0) := by kernel_rfl
theorem z26 : (Tryd.prog.info? 26).bind (·.zero) = some (.agg #[.int .i64 0, .int .i64 0, .int .i64 0, .int .i64 0]) := by kernel_rfl
theorem z32 : (Tryd.prog.info? 32).bind (·.zero) = some (.agg #[.int .i64 0, .int .i64 0, .int .i64 0, .int .i64 0, .int .i64 0, .bool false, .int .i64 0, .int .i64 0, .int .i64 0, .int .i64 0, .int .i64 0, .int .i64 0]) := by kernel_rfl
theorem z43 : (Tryd.prog.info? 43).bind (·.zero) = some (.agg #[.map none, .pointer none, .map none, .int .i64 0]) := by kernel_rfl
theorem z45 : (Tryd.prog.info? 45).bind (·.zero) = some (.agg #[.pointer none, .slice none 0 0]) := by kernel_rfl
theorem z64 : (Tryd.prog.info? 64).bind (·.zero) = some (.agg #[.slice none 0 0, .bool false]) := by kernel_rfl
theorem z67 : (Tryd.prog.info? 67).bind (·.zero) = some (.agg #[.slice none 0 0, .slice none 0 0]) := by kernel_rfl
theorem z72 : (Tryd.prog.info? 72).bind (·.zero) = some (.agg #[.int .i64 0, .int .i64 0, .int .i64 0]) := by kernel_rfl
theorem z80 : (Tryd.prog.info? 80).bind (·.zero) = some (.agg #[.int .u8 0, .int .i64 0, .int .i64 0]) := by kernel_rfl
theorem z85 : (Tryd.prog.info? 85).bind (·.zero) = some (.agg #[.pointer none, .int .i64 0]) := by kernel_rfl
theorem zr3 : ((Tryd.prog.info? 3).any fun i => i.zero.isSome) = true := by kernel_rfl
theorem zr5 : ((Tryd.prog.info? 5).any fun i => i.zero.isSome) = true := by kernel_rfl
theorem zr32 : ((Tryd.prog.info? 32).any fun i => i.zero.isSome) = true := by kernel_rfl
theorem al32 (K : AV → Prop) : awpAlloc ((Tryd.prog.info? 32).bind (·.zero)) K = K (.box [.v (.int .i64 0), .v (.int .i64 0), .v (.int .i64 0), .v (.int .i64 0), .v (.int .i64 0), .v (.bool false), .v (.int .i64 0), .v (.int .i64 0), .v (.int .i64 0), .v (.int .i64 0), .v (.int .i64 0), .v (.int .i64 0)]) := alloc_eq z32 rfl rfl K
theorem al67 (K : AV → Prop) : awpAlloc ((Tryd.prog.info? 67).bind (·.zero)) K = K (.box [.v (.slice none 0 0), .v (.slice none 0 0)]) := alloc_eq z67 rfl rfl K
theorem al72 (K : AV → Prop) : awpAlloc ((Tryd.prog.info? 72).bind (·.zero)) K = K (.box [.v (.int .i64 0), .v (.int .i64 0), .v (.int .i64 0)]) := alloc_eq z72 rfl rfl K
theorem al80 (K : AV → Prop) : awpAlloc ((Tryd.prog.info? 80).bind (·.zero)) K = K (.box [.v (.int .u8 0), .v (.int .i64 0), .v (.int .i64 0)]) := alloc_eq z80 rfl rfl K
theorem al85 (K : AV → Prop) : awpAlloc ((Tryd.prog.info? 85).bind (·.zero)) K = K (.box [.v (.pointer none), .v (.int .i64 0)]) := alloc_eq z85 rfl rfl K
theorem bd32 (parts : List (Nat × AV)) (K : AV → Prop) : awpBuild Tryd.prog 32 parts K = bldE [(0, 1), (1, 1), (2, 1), (3, 1), (4, 1), (5, 1), (6, 1), (7, 1), (8, 1), (9, 1), (10, 1), (11, 1)] [.v (.int .i64 0), .v (.int .i64 0), .v (.int .i64 0), .v (.int .i64 0), .v (.int .i64 0), .v (.bool false), .v (.int .i64 0), .v (.int .i64 0), .v (.int .i64 0), .v (.int .i64 0), .v (.int .i64 0), .v (.int .i64 0)] K parts := build_eq fl32 z32 rfl parts K
theorem bd67 (parts : List (Nat × AV)) (K : AV → Prop) : awpBuild Tryd.prog 67 parts K = bldE [(0, 1), (1, 1)] [.v (.slice none 0 0), .v (.slice none 0 0)] K parts := build_eq fl67 z67 rfl parts K
theorem bd72 (parts : List (Nat × AV)) (K : AV → Prop) : awpBuild Tryd.prog 72 parts K = bldE [(0, 1), (1, 1), (2, 1)] [.v (.int .i64 0), .v (.int .i64 0), .v (.int .i64 0)] K parts := build_eq fl72 z72 rfl parts K
theorem bd80 (parts : List (Nat × AV)) (K : AV → Prop) : awpBuild Tryd.prog 80 parts K = bldE [(0, 1), (1, 1), (2, 1)] [.v (.int .u8 0), .v (.int .i64 0), .v (.int .i64 0)] K parts := build_eq fl80 z80 rfl parts K
theorem bd85 (parts : List (Nat × AV)) (K : AV → Prop) : awpBuild Tryd.prog 85 parts K = bldE [(0, 1), (1, 1)] [.v (.pointer none), .v (.int .i64 0)] K parts := build_eq fl85 z85 rfl parts K

end Go.Proofs
