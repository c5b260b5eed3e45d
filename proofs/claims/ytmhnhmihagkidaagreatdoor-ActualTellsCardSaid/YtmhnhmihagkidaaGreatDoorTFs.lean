/- What the types of this program say. -/
import Derived.Test.YtmhnhmihagkidaaGreatDoorV2
import Derived.Test.YtmhnhmihagkidaaGreatDoorProg
import Derived.KernelRfl
/- What the types of this program say: printed. -/
set_option linter.unusedSimpArgs false
set_option linter.unusedVariables false
namespace Go.Proofs.Lx
open Go.Vm
theorem as22 : arrSz Tryz.prog 22 = none := by kernel_rfl
theorem as30 : arrSz Tryz.prog 30 = none := by kernel_rfl
theorem as32 : arrSz Tryz.prog 32 = none := by kernel_rfl
theorem as41 : arrSz Tryz.prog 41 = none := by kernel_rfl
theorem as64 : arrSz Tryz.prog 64 = none := by kernel_rfl
theorem as124 : arrSz Tryz.prog 124 = none := by kernel_rfl
theorem bt124 : bytesT Tryz.prog 124 = true := by kernel_rfl
theorem cv3_5 (n : Int) (s' s : Slots) (K : AV → Slots → Prop) : awpCvX Tryz.prog 3 5 (.v (.int .i64 n), s') (.v (.int .i64 n)) (.v (.int .i64 n)) s K = K (.v (.int .u8 (IntKind.u8.wrap n))) s := cvi (d := .int .i64) (by kernel_rfl) (by kernel_rfl) n s' s K
theorem cv3_281 (n : Int) (s' s : Slots) (K : AV → Slots → Prop) : awpCvX Tryz.prog 3 281 (.v (.int .i64 n), s') (.v (.int .i64 n)) (.v (.int .i64 n)) s K = K (.v (.int .u64 (IntKind.u64.wrap n))) s := cvi (d := .int .i64) (by kernel_rfl) (by kernel_rfl) n s' s K
theorem cv5_3 (n : Int) (s' s : Slots) (K : AV → Slots → Prop) : awpCvX Tryz.prog 5 3 (.v (.int .u8 n), s') (.v (.int .u8 n)) (.v (.int .u8 n)) s K = K (.v (.int .i64 (IntKind.i64.wrap n))) s := cvi (d := .int .u8) (by kernel_rfl) (by kernel_rfl) n s' s K
theorem cv5_281 (n : Int) (s' s : Slots) (K : AV → Slots → Prop) : awpCvX Tryz.prog 5 281 (.v (.int .u8 n), s') (.v (.int .u8 n)) (.v (.int .u8 n)) s K = K (.v (.int .u64 (IntKind.u64.wrap n))) s := cvi (d := .int .u8) (by kernel_rfl) (by kernel_rfl) n s' s K
theorem cv281_3 (n : Int) (s' s : Slots) (K : AV → Slots → Prop) : awpCvX Tryz.prog 281 3 (.v (.int .u64 n), s') (.v (.int .u64 n)) (.v (.int .u64 n)) s K = K (.v (.int .i64 (IntKind.i64.wrap n))) s := cvi (d := .int .u64) (by kernel_rfl) (by kernel_rfl) n s' s K
theorem cv281_5 (n : Int) (s' s : Slots) (K : AV → Slots → Prop) : awpCvX Tryz.prog 281 5 (.v (.int .u64 n), s') (.v (.int .u64 n)) (.v (.int .u64 n)) s K = K (.v (.int .u8 (IntKind.u8.wrap n))) s := cvi (d := .int .u64) (by kernel_rfl) (by kernel_rfl) n s' s K
theorem ei22 : elemIn Tryz.prog 22 = some (27, 12, 96) := by kernel_rfl
theorem ei30 : elemIn Tryz.prog 30 = some (3, 1, 8) := by kernel_rfl
theorem ei32 : elemIn Tryz.prog 32 = some (35, 6, 48) := by kernel_rfl
theorem ei41 : elemIn Tryz.prog 41 = some (42, 6, 48) := by kernel_rfl
theorem ei64 : elemIn Tryz.prog 64 = some (126, 2, 48) := by kernel_rfl
theorem ei124 : elemIn Tryz.prog 124 = some (5, 1, 1) := by kernel_rfl
theorem es22 : elemSz Tryz.prog 22 = some (27, 12) := by kernel_rfl
theorem es30 : elemSz Tryz.prog 30 = some (3, 1) := by kernel_rfl
theorem es32 : elemSz Tryz.prog 32 = some (35, 6) := by kernel_rfl
theorem es41 : elemSz Tryz.prog 41 = some (42, 6) := by kernel_rfl
theorem es64 : elemSz Tryz.prog 64 = some (126, 2) := by kernel_rfl
theorem es124 : elemSz Tryz.prog 124 = some (5, 1) := by kernel_rfl
theorem fd35 : flatDs Tryz.prog 35 = some [.int .i64, .int .i64, .int .i64, .int .i64, .int .i64, .int .i64] := by kernel_rfl
theorem fd42 : flatDs Tryz.prog 42 = some [.int .i64, .int .i64, .int .i64, .int .i64, .int .i64, .int .i64] := by kernel_rfl
theorem fl27 : fieldsAt Tryz.prog 27 = some [(0, 1), (1, 1), (2, 1), (3, 1), (4, 1), (5, 1), (6, 1), (7, 1), (8, 1), (9, 1), (10, 1), (11, 1)] := by kernel_rfl
theorem fl35 : fieldsAt Tryz.prog 35 = some [(0, 1), (1, 1), (2, 1), (3, 1), (4, 1), (5, 1)] := by kernel_rfl
theorem fl42 : fieldsAt Tryz.prog 42 = some [(0, 1), (1, 1), (2, 1), (3, 1), (4, 1), (5, 1)] := by kernel_rfl
theorem fl123 : fieldsAt Tryz.prog 123 = some [(0, 1), (1, 1), (2, 1), (3, 1)] := by kernel_rfl
theorem fl126 : fieldsAt Tryz.prog 126 = some [(0, 1), (1, 1)] := by kernel_rfl
theorem fl130 : fieldsAt Tryz.prog 130 = some [(0, 1), (1, 1)] := by kernel_rfl
theorem fl135 : fieldsAt Tryz.prog 135 = some [(0, 1)] := by kernel_rfl
theorem fl137 : fieldsAt Tryz.prog 137 = some [(0, 1), (1, 1), (2, 1)] := by kernel_rfl
theorem fl174 : fieldsAt Tryz.prog 174 = some [(0, 1), (1, 1)] := by kernel_rfl
theorem fl200 : fieldsAt Tryz.prog 200 = some [(0, 1), (1, 1), (2, 1)] := by kernel_rfl
theorem fl206 : fieldsAt Tryz.prog 206 = some [(0, 1), (1, 1)] := by kernel_rfl
theorem fo27_0 : fieldOf Tryz.prog 27 0 = some (0, 3) := by kernel_rfl
theorem fo27_1 : fieldOf Tryz.prog 27 1 = some (1, 3) := by kernel_rfl
theorem fo27_2 : fieldOf Tryz.prog 27 2 = some (2, 3) := by kernel_rfl
theorem fo27_3 : fieldOf Tryz.prog 27 3 = some (3, 3) := by kernel_rfl
theorem fo27_4 : fieldOf Tryz.prog 27 4 = some (4, 3) := by kernel_rfl
theorem fo27_5 : fieldOf Tryz.prog 27 5 = some (5, 4) := by kernel_rfl
theorem fo27_6 : fieldOf Tryz.prog 27 6 = some (6, 3) := by kernel_rfl
theorem fo27_7 : fieldOf Tryz.prog 27 7 = some (7, 3) := by kernel_rfl
theorem fo27_8 : fieldOf Tryz.prog 27 8 = some (8, 3) := by kernel_rfl
theorem fo27_9 : fieldOf Tryz.prog 27 9 = some (9, 3) := by kernel_rfl
theorem fo27_10 : fieldOf Tryz.prog 27 10 = some (10, 3) := by kernel_rfl
theorem fo27_11 : fieldOf Tryz.prog 27 11 = some (11, 3) := by kernel_rfl
theorem fo35_0 : fieldOf Tryz.prog 35 0 = some (0, 3) := by kernel_rfl
theorem fo35_1 : fieldOf Tryz.prog 35 1 = some (1, 3) := by kernel_rfl
theorem fo35_2 : fieldOf Tryz.prog 35 2 = some (2, 3) := by kernel_rfl
theorem fo35_3 : fieldOf Tryz.prog 35 3 = some (3, 3) := by kernel_rfl
theorem fo35_4 : fieldOf Tryz.prog 35 4 = some (4, 3) := by kernel_rfl
theorem fo35_5 : fieldOf Tryz.prog 35 5 = some (5, 3) := by kernel_rfl
theorem fo42_0 : fieldOf Tryz.prog 42 0 = some (0, 3) := by kernel_rfl
theorem fo42_1 : fieldOf Tryz.prog 42 1 = some (1, 3) := by kernel_rfl
theorem fo42_2 : fieldOf Tryz.prog 42 2 = some (2, 3) := by kernel_rfl
theorem fo42_3 : fieldOf Tryz.prog 42 3 = some (3, 3) := by kernel_rfl
theorem fo42_4 : fieldOf Tryz.prog 42 4 = some (4, 3) := by kernel_rfl
theorem fo42_5 : fieldOf Tryz.prog 42 5 = some (5, 3) := by kernel_rfl
theorem fo123_0 : fieldOf Tryz.prog 123 0 = some (0, 120) := by kernel_rfl
theorem fo123_1 : fieldOf Tryz.prog 123 1 = some (1, 118) := by kernel_rfl
theorem fo123_2 : fieldOf Tryz.prog 123 2 = some (2, 121) := by kernel_rfl
theorem fo123_3 : fieldOf Tryz.prog 123 3 = some (3, 28) := by kernel_rfl
theorem fo126_0 : fieldOf Tryz.prog 126 0 = some (0, 124) := by kernel_rfl
theorem fo126_1 : fieldOf Tryz.prog 126 1 = some (1, 124) := by kernel_rfl
theorem fo130_0 : fieldOf Tryz.prog 130 0 = some (0, 24) := by kernel_rfl
theorem fo130_1 : fieldOf Tryz.prog 130 1 = some (1, 3) := by kernel_rfl
theorem fo135_0 : fieldOf Tryz.prog 135 0 = some (0, 64) := by kernel_rfl
theorem fo137_1 : fieldOf Tryz.prog 137 1 = some (1, 133) := by kernel_rfl
theorem fo137_2 : fieldOf Tryz.prog 137 2 = some (2, 133) := by kernel_rfl
theorem fo174_0 : fieldOf Tryz.prog 174 0 = some (0, 24) := by kernel_rfl
theorem fo174_1 : fieldOf Tryz.prog 174 1 = some (1, 3) := by kernel_rfl
theorem fo200_0 : fieldOf Tryz.prog 200 0 = some (0, 5) := by kernel_rfl
theorem fo200_1 : fieldOf Tryz.prog 200 1 = some (1, 3) := by kernel_rfl
theorem fo200_2 : fieldOf Tryz.prog 200 2 = some (2, 3) := by kernel_rfl
theorem fo206_0 : fieldOf Tryz.prog 206 0 = some (0, 124) := by kernel_rfl
theorem fo206_1 : fieldOf Tryz.prog 206 1 = some (1, 4) := by kernel_rfl
theorem mt120 : MapT Tryz.prog 120 9 206 (.string) := ⟨by kernel_rfl, by kernel_rfl⟩
theorem mt121 : MapT Tryz.prog 121 9 124 (.string) := ⟨by kernel_rfl, by kernel_rfl⟩
theorem of3 (c : AV) (cs : List AV) (K : AV → Prop) : ofCells Tryz.prog 3 (c :: cs) K = K (val c) := ofCells_one (by kernel_rfl) c cs K
theorem of4 (c : AV) (cs : List AV) (K : AV → Prop) : ofCells Tryz.prog 4 (c :: cs) K = K (val c) := ofCells_one (by kernel_rfl) c cs K
theorem of5 (c : AV) (cs : List AV) (K : AV → Prop) : ofCells Tryz.prog 5 (c :: cs) K = K (val c) := ofCells_one (by kernel_rfl) c cs K
theorem of24 (c : AV) (cs : List AV) (K : AV → Prop) : ofCells Tryz.prog 24 (c :: cs) K = K (val c) := ofCells_one (by kernel_rfl) c cs K
theorem of27 (cs : List AV) (K : AV → Prop) : ofCells Tryz.prog 27 cs K = (12 ≤ cs.length ∧ K (.agg (cs.take 12))) := ofCells_agg (by kernel_rfl) cs K
theorem of28 (c : AV) (cs : List AV) (K : AV → Prop) : ofCells Tryz.prog 28 (c :: cs) K = K (val c) := ofCells_one (by kernel_rfl) c cs K
theorem of35 (cs : List AV) (K : AV → Prop) : ofCells Tryz.prog 35 cs K = (6 ≤ cs.length ∧ K (.agg (cs.take 6))) := ofCells_agg (by kernel_rfl) cs K
theorem of42 (cs : List AV) (K : AV → Prop) : ofCells Tryz.prog 42 cs K = (6 ≤ cs.length ∧ K (.agg (cs.take 6))) := ofCells_agg (by kernel_rfl) cs K
theorem of64 (c : AV) (cs : List AV) (K : AV → Prop) : ofCells Tryz.prog 64 (c :: cs) K = K (val c) := ofCells_one (by kernel_rfl) c cs K
theorem of118 (c : AV) (cs : List AV) (K : AV → Prop) : ofCells Tryz.prog 118 (c :: cs) K = K (val c) := ofCells_one (by kernel_rfl) c cs K
theorem of120 (c : AV) (cs : List AV) (K : AV → Prop) : ofCells Tryz.prog 120 (c :: cs) K = K (val c) := ofCells_one (by kernel_rfl) c cs K
theorem of121 (c : AV) (cs : List AV) (K : AV → Prop) : ofCells Tryz.prog 121 (c :: cs) K = K (val c) := ofCells_one (by kernel_rfl) c cs K
theorem of124 (c : AV) (cs : List AV) (K : AV → Prop) : ofCells Tryz.prog 124 (c :: cs) K = K (val c) := ofCells_one (by kernel_rfl) c cs K
theorem of126 (cs : List AV) (K : AV → Prop) : ofCells Tryz.prog 126 cs K = (2 ≤ cs.length ∧ K (.agg (cs.take 2))) := ofCells_agg (by kernel_rfl) cs K
theorem of130 (cs : List AV) (K : AV → Prop) : ofCells Tryz.prog 130 cs K = (2 ≤ cs.length ∧ K (.agg (cs.take 2))) := ofCells_agg (by kernel_rfl) cs K
theorem of133 (c : AV) (cs : List AV) (K : AV → Prop) : ofCells Tryz.prog 133 (c :: cs) K = K (val c) := ofCells_one (by kernel_rfl) c cs K
theorem of174 (cs : List AV) (K : AV → Prop) : ofCells Tryz.prog 174 cs K = (2 ≤ cs.length ∧ K (.agg (cs.take 2))) := ofCells_agg (by kernel_rfl) cs K
theorem of200 (cs : List AV) (K : AV → Prop) : ofCells Tryz.prog 200 cs K = (3 ≤ cs.length ∧ K (.agg (cs.take 3))) := ofCells_agg (by kernel_rfl) cs K
theorem of206 (cs : List AV) (K : AV → Prop) : ofCells Tryz.prog 206 cs K = (2 ≤ cs.length ∧ K (.agg (cs.take 2))) := ofCells_agg (by kernel_rfl) cs K
theorem sz3 : szT Tryz.prog 3 = some 1 := by kernel_rfl
theorem sz27 : szT Tryz.prog 27 = some 12 := by kernel_rfl
theorem sz35 : szT Tryz.prog 35 = some 6 := by kernel_rfl
theorem sz42 : szT Tryz.prog 42 = some 6 := by kernel_rfl
theorem sz64 : szT Tryz.prog 64 = some 1 := by kernel_rfl
theorem sz126 : szT Tryz.prog 126 = some 2 := by kernel_rfl
theorem sz130 : szT Tryz.prog 130 = some 2 := by kernel_rfl
theorem sz174 : szT Tryz.prog 174 = some 2 := by kernel_rfl
theorem sz200 : szT Tryz.prog 200 = some 3 := by kernel_rfl
theorem sz206 : szT Tryz.prog 206 = some 2 := by kernel_rfl
theorem z3 : (Tryz.prog.info? 3).bind (·.zero) = some (.int .i64 0) := by kernel_rfl
theorem z5 : (Tryz.prog.info? 5).bind (·.zero) = some (.int .u8 0) := by kernel_rfl
theorem z27 : (Tryz.prog.info? 27).bind (·.zero) = some (.agg #[.int .i64 0, .int .i64 0, .int .i64 0, .int .i64 0, .int .i64 0, .bool false, .int .i64 0, .int .i64 0, .int .i64 0, .int .i64 0, .int .i64 0, .int .i64 0]) := by kernel_rfl
theorem z35 : (Tryz.prog.info? 35).bind (·.zero) = some (.agg #[.int .i64 0, .int .i64 0, .int .i64 0, .int .i64 0, .int .i64 0, .int .i64 0]) := by kernel_rfl
theorem z42 : (Tryz.prog.info? 42).bind (·.zero) = some (.agg #[.int .i64 0, .int .i64 0, .int .i64 0, .int .i64 0, .int .i64 0, .int .i64 0]) := by kernel_rfl
theorem z123 : (Tryz.prog.info? 123).bind (·.zero) = some (.agg #[.map none, .pointer none, .map none, .int .i64 0]) := by kernel_rfl
theorem z124 : (Tryz.prog.info? 124).bind (·.zero) = some (.slice none 0 0) := by kernel_rfl
theorem z126 : (Tryz.prog.info? 126).bind (·.zero) = some (.agg #[.slice none 0 0, .slice none 0 0]) := by kernel_rfl
theorem z130 : (Tryz.prog.info? 130).bind (·.zero) = some (.agg #[.pointer none, .int .i64 0]) := by kernel_rfl
theorem z135 : (Tryz.prog.info? 135).bind (·.zero) = some (.agg #[.slice none 0 0]) := by kernel_rfl
theorem z137 : (Tryz.prog.info? 137).bind (·.zero) = some (.agg #[.pointer none, .pointer none, .pointer none]) := by kernel_rfl
theorem z174 : (Tryz.prog.info? 174).bind (·.zero) = some (.agg #[.pointer none, .int .i64 0]) := by kernel_rfl
theorem z200 : (Tryz.prog.info? 200).bind (·.zero) = some (.agg #[.int .u8 0, .int .i64 0, .int .i64 0]) := by kernel_rfl
theorem z206 : (Tryz.prog.info? 206).bind (·.zero) = some (.agg #[.slice none 0 0, .bool false]) := by kernel_rfl
theorem zr3 : ((Tryz.prog.info? 3).any fun i => i.zero.isSome) = true := by kernel_rfl
theorem zr5 : ((Tryz.prog.info? 5).any fun i => i.zero.isSome) = true := by kernel_rfl
theorem zr27 : ((Tryz.prog.info? 27).any fun i => i.zero.isSome) = true := by kernel_rfl
theorem zr35 : ((Tryz.prog.info? 35).any fun i => i.zero.isSome) = true := by kernel_rfl
theorem zr42 : ((Tryz.prog.info? 42).any fun i => i.zero.isSome) = true := by kernel_rfl
theorem zr126 : ((Tryz.prog.info? 126).any fun i => i.zero.isSome) = true := by kernel_rfl
theorem al27 (K : AV → Prop) : awpAlloc ((Tryz.prog.info? 27).bind (·.zero)) K = K (.box [.v (.int .i64 0), .v (.int .i64 0), .v (.int .i64 0), .v (.int .i64 0), .v (.int .i64 0), .v (.bool false), .v (.int .i64 0), .v (.int .i64 0), .v (.int .i64 0), .v (.int .i64 0), .v (.int .i64 0), .v (.int .i64 0)]) := alloc_eq z27 rfl rfl K
theorem al35 (K : AV → Prop) : awpAlloc ((Tryz.prog.info? 35).bind (·.zero)) K = K (.box [.v (.int .i64 0), .v (.int .i64 0), .v (.int .i64 0), .v (.int .i64 0), .v (.int .i64 0), .v (.int .i64 0)]) := alloc_eq z35 rfl rfl K
theorem al42 (K : AV → Prop) : awpAlloc ((Tryz.prog.info? 42).bind (·.zero)) K = K (.box [.v (.int .i64 0), .v (.int .i64 0), .v (.int .i64 0), .v (.int .i64 0), .v (.int .i64 0), .v (.int .i64 0)]) := alloc_eq z42 rfl rfl K
theorem al126 (K : AV → Prop) : awpAlloc ((Tryz.prog.info? 126).bind (·.zero)) K = K (.box [.v (.slice none 0 0), .v (.slice none 0 0)]) := alloc_eq z126 rfl rfl K
theorem al130 (K : AV → Prop) : awpAlloc ((Tryz.prog.info? 130).bind (·.zero)) K = K (.box [.v (.pointer none), .v (.int .i64 0)]) := alloc_eq z130 rfl rfl K
theorem al174 (K : AV → Prop) : awpAlloc ((Tryz.prog.info? 174).bind (·.zero)) K = K (.box [.v (.pointer none), .v (.int .i64 0)]) := alloc_eq z174 rfl rfl K
theorem al200 (K : AV → Prop) : awpAlloc ((Tryz.prog.info? 200).bind (·.zero)) K = K (.box [.v (.int .u8 0), .v (.int .i64 0), .v (.int .i64 0)]) := alloc_eq z200 rfl rfl K
theorem al206 (K : AV → Prop) : awpAlloc ((Tryz.prog.info? 206).bind (·.zero)) K = K (.box [.v (.slice none 0 0), .v (.bool false)]) := alloc_eq z206 rfl rfl K
theorem bd27 (parts : List (Nat × AV)) (K : AV → Prop) : awpBuild Tryz.prog 27 parts K = bldE [(0, 1), (1, 1), (2, 1), (3, 1), (4, 1), (5, 1), (6, 1), (7, 1), (8, 1), (9, 1), (10, 1), (11, 1)] [.v (.int .i64 0), .v (.int .i64 0), .v (.int .i64 0), .v (.int .i64 0), .v (.int .i64 0), .v (.bool false), .v (.int .i64 0), .v (.int .i64 0), .v (.int .i64 0), .v (.int .i64 0), .v (.int .i64 0), .v (.int .i64 0)] K parts := build_eq fl27 z27 rfl parts K
theorem bd35 (parts : List (Nat × AV)) (K : AV → Prop) : awpBuild Tryz.prog 35 parts K = bldE [(0, 1), (1, 1), (2, 1), (3, 1), (4, 1), (5, 1)] [.v (.int .i64 0), .v (.int .i64 0), .v (.int .i64 0), .v (.int .i64 0), .v (.int .i64 0), .v (.int .i64 0)] K parts := build_eq fl35 z35 rfl parts K
theorem bd42 (parts : List (Nat × AV)) (K : AV → Prop) : awpBuild Tryz.prog 42 parts K = bldE [(0, 1), (1, 1), (2, 1), (3, 1), (4, 1), (5, 1)] [.v (.int .i64 0), .v (.int .i64 0), .v (.int .i64 0), .v (.int .i64 0), .v (.int .i64 0), .v (.int .i64 0)] K parts := build_eq fl42 z42 rfl parts K
theorem bd126 (parts : List (Nat × AV)) (K : AV → Prop) : awpBuild Tryz.prog 126 parts K = bldE [(0, 1), (1, 1)] [.v (.slice none 0 0), .v (.slice none 0 0)] K parts := build_eq fl126 z126 rfl parts K
theorem bd130 (parts : List (Nat × AV)) (K : AV → Prop) : awpBuild Tryz.prog 130 parts K = bldE [(0, 1), (1, 1)] [.v (.pointer none), .v (.int .i64 0)] K parts := build_eq fl130 z130 rfl parts K
theorem bd135 (parts : List (Nat × AV)) (K : AV → Prop) : awpBuild Tryz.prog 135 parts K = bldE [(0, 1)] [.v (.slice none 0 0)] K parts := build_eq fl135 z135 rfl parts K
theorem bd137 (parts : List (Nat × AV)) (K : AV → Prop) : awpBuild Tryz.prog 137 parts K = bldE [(0, 1), (1, 1), (2, 1)] [.v (.pointer none), .v (.pointer none), .v (.pointer none)] K parts := build_eq fl137 z137 rfl parts K
theorem bd174 (parts : List (Nat × AV)) (K : AV → Prop) : awpBuild Tryz.prog 174 parts K = bldE [(0, 1), (1, 1)] [.v (.pointer none), .v (.int .i64 0)] K parts := build_eq fl174 z174 rfl parts K
theorem bd200 (parts : List (Nat × AV)) (K : AV → Prop) : awpBuild Tryz.prog 200 parts K = bldE [(0, 1), (1, 1), (2, 1)] [.v (.int .u8 0), .v (.int .i64 0), .v (.int .i64 0)] K parts := build_eq fl200 z200 rfl parts K
theorem q3 : type_of% (And.intro (And.intro (And.intro (And.intro Tryz.underlying22 (And.intro es22 as22)) (And.intro of27 (And.intro al27 sz27))) (And.intro (And.intro fo27_0 (And.intro sz3 fo27_6)) (And.intro of3 (And.intro fo27_7 fo27_8)))) (And.intro (And.intro (And.intro fo27_9 (And.intro Tryz.underlying32 es32)) (And.intro as32 (And.intro of35 al35))) (And.intro (And.intro sz35 (And.intro fo35_0 fo35_3)) (And.intro (And.intro fo35_2 fo35_5) (And.intro fo35_4 Tryz.results3))))) := (And.intro (And.intro (And.intro (And.intro Tryz.underlying22 (And.intro es22 as22)) (And.intro of27 (And.intro al27 sz27))) (And.intro (And.intro fo27_0 (And.intro sz3 fo27_6)) (And.intro of3 (And.intro fo27_7 fo27_8)))) (And.intro (And.intro (And.intro fo27_9 (And.intro Tryz.underlying32 es32)) (And.intro as32 (And.intro of35 al35))) (And.intro (And.intro sz35 (And.intro fo35_0 fo35_3)) (And.intro (And.intro fo35_2 fo35_5) (And.intro fo35_4 Tryz.results3)))))
theorem q4 : type_of% (And.intro (And.intro (And.intro (And.intro Tryz.underlying22 Tryz.underlying32) (And.intro es22 as22)) (And.intro (And.intro of27 al27) (And.intro sz27 (And.intro es32 as32)))) (And.intro (And.intro (And.intro of35 al35) (And.intro sz35 (And.intro es41 (fun tx => append_own (tx := tx) ei41)))) (And.intro (And.intro (fun tx => append_nil (tx := tx) ei41) Tryz.underlying41) (And.intro as41 (And.intro of42 Tryz.results4))))) := (And.intro (And.intro (And.intro (And.intro Tryz.underlying22 Tryz.underlying32) (And.intro es22 as22)) (And.intro (And.intro of27 al27) (And.intro sz27 (And.intro es32 as32)))) (And.intro (And.intro (And.intro of35 al35) (And.intro sz35 (And.intro es41 (fun tx => append_own (tx := tx) ei41)))) (And.intro (And.intro (fun tx => append_nil (tx := tx) ei41) Tryz.underlying41) (And.intro as41 (And.intro of42 Tryz.results4)))))
theorem q11 : type_of% (And.intro (And.intro bd27 (And.intro bd35 es32)) (And.intro fo35_0 (And.intro of3 Tryz.results11))) := (And.intro (And.intro bd27 (And.intro bd35 es32)) (And.intro fo35_0 (And.intro of3 Tryz.results11)))
theorem q14 : type_of% (And.intro (And.intro (And.intro Tryz.underlying22 (And.intro es22 as22)) (And.intro of27 (And.intro al27 sz27))) (And.intro (And.intro fo27_6 (And.intro of3 fo27_1)) (And.intro (And.intro es30 (fun tx => append_own (tx := tx) ei30)) (And.intro (fun tx => append_nil (tx := tx) ei30) Tryz.results14)))) := (And.intro (And.intro (And.intro Tryz.underlying22 (And.intro es22 as22)) (And.intro of27 (And.intro al27 sz27))) (And.intro (And.intro fo27_6 (And.intro of3 fo27_1)) (And.intro (And.intro es30 (fun tx => append_own (tx := tx) ei30)) (And.intro (fun tx => append_nil (tx := tx) ei30) Tryz.results14))))
theorem q15 : type_of% (And.intro (And.intro (And.intro bd130 (And.intro al130 sz130)) (And.intro (And.intro Tryz.underlying22 es22) (And.intro as22 of27))) (And.intro (And.intro al27 (And.intro sz27 of130)) (And.intro (And.intro es32 (fun tx => append_own (tx := tx) ei32)) (And.intro (fun tx => append_nil (tx := tx) ei32) Tryz.results15)))) := (And.intro (And.intro (And.intro bd130 (And.intro al130 sz130)) (And.intro (And.intro Tryz.underlying22 es22) (And.intro as22 of27))) (And.intro (And.intro al27 (And.intro sz27 of130)) (And.intro (And.intro es32 (fun tx => append_own (tx := tx) ei32)) (And.intro (fun tx => append_nil (tx := tx) ei32) Tryz.results15))))
theorem q18 : type_of% (And.intro (And.intro of27 (And.intro al126 sz126)) (And.intro (And.intro fo126_0 of124) (And.intro fo126_1 Tryz.results18))) := (And.intro (And.intro of27 (And.intro al126 sz126)) (And.intro (And.intro fo126_0 of124) (And.intro fo126_1 Tryz.results18)))
theorem q19 : type_of% (And.intro (And.intro (And.intro of42 (And.intro al42 fo35_0)) (And.intro of3 (And.intro fo35_1 fo35_2))) (And.intro (And.intro fo35_3 (And.intro fo35_4 fo35_5)) (And.intro bd42 (And.intro sz42 Tryz.results19)))) := (And.intro (And.intro (And.intro of42 (And.intro al42 fo35_0)) (And.intro of3 (And.intro fo35_1 fo35_2))) (And.intro (And.intro fo35_3 (And.intro fo35_4 fo35_5)) (And.intro bd42 (And.intro sz42 Tryz.results19))))
theorem q20 : type_of% (And.intro (And.intro (And.intro Tryz.underlying22 (And.intro es22 as22)) (And.intro (And.intro of27 al27) (And.intro sz27 fo27_1))) (And.intro (And.intro of3 (And.intro fo27_6 bd42)) (And.intro (And.intro es41 (fun tx => append_own (tx := tx) ei41)) (And.intro (fun tx => append_nil (tx := tx) ei41) Tryz.results20)))) := (And.intro (And.intro (And.intro Tryz.underlying22 (And.intro es22 as22)) (And.intro (And.intro of27 al27) (And.intro sz27 fo27_1))) (And.intro (And.intro of3 (And.intro fo27_6 bd42)) (And.intro (And.intro es41 (fun tx => append_own (tx := tx) ei41)) (And.intro (fun tx => append_nil (tx := tx) ei41) Tryz.results20))))
theorem q22 : type_of% (And.intro (And.intro (And.intro Tryz.underlying22 es22) (And.intro as22 (And.intro of27 fo27_6))) (And.intro (And.intro of3 (And.intro fo27_1 es30)) (And.intro (fun tx => append_own (tx := tx) ei30) (And.intro (fun tx => append_nil (tx := tx) ei30) Tryz.results22)))) := (And.intro (And.intro (And.intro Tryz.underlying22 es22) (And.intro as22 (And.intro of27 fo27_6))) (And.intro (And.intro of3 (And.intro fo27_1 es30)) (And.intro (fun tx => append_own (tx := tx) ei30) (And.intro (fun tx => append_nil (tx := tx) ei30) Tryz.results22))))
theorem q23 : type_of% Tryz.results23 := Tryz.results23
theorem q24 : type_of% Tryz.results24 := Tryz.results24
theorem q25 : type_of% (And.intro (And.intro (And.intro of35 (And.intro al35 Tryz.underlying32)) (And.intro (And.intro es32 as32) (And.intro sz35 fo35_1))) (And.intro (And.intro (And.intro of3 fo35_0) (And.intro sz3 fo35_2)) (And.intro (And.intro fo35_3 fo35_4) (And.intro fo35_5 Tryz.results25)))) := (And.intro (And.intro (And.intro of35 (And.intro al35 Tryz.underlying32)) (And.intro (And.intro es32 as32) (And.intro sz35 fo35_1))) (And.intro (And.intro (And.intro of3 fo35_0) (And.intro sz3 fo35_2)) (And.intro (And.intro fo35_3 fo35_4) (And.intro fo35_5 Tryz.results25))))
theorem q26 : type_of% (And.intro (And.intro (And.intro of42 (And.intro al42 Tryz.underlying41)) (And.intro (And.intro es41 as41) (And.intro fo42_1 of3))) (And.intro (And.intro (And.intro fo42_0 sz3) (And.intro fo42_2 fo42_3)) (And.intro (And.intro fo42_4 fo42_5) (And.intro sz42 Tryz.results26)))) := (And.intro (And.intro (And.intro of42 (And.intro al42 Tryz.underlying41)) (And.intro (And.intro es41 as41) (And.intro fo42_1 of3))) (And.intro (And.intro (And.intro fo42_0 sz3) (And.intro fo42_2 fo42_3)) (And.intro (And.intro fo42_4 fo42_5) (And.intro sz42 Tryz.results26))))
theorem q48 : type_of% (And.intro bd174 Tryz.results48) := (And.intro bd174 Tryz.results48)
theorem q70 : type_of% (And.intro (And.intro Tryz.underlying32 es32) (And.intro as32 (And.intro of35 Tryz.results70))) := (And.intro (And.intro Tryz.underlying32 es32) (And.intro as32 (And.intro of35 Tryz.results70)))
theorem q73 : type_of% (And.intro (And.intro (And.intro of35 (And.intro al35 of27)) (And.intro fo130_0 (And.intro of24 fo130_1))) (And.intro (And.intro of3 (And.intro fo27_1 Tryz.underlying22)) (And.intro (And.intro fo27_6 bd35) (And.intro sz35 Tryz.results73)))) := (And.intro (And.intro (And.intro of35 (And.intro al35 of27)) (And.intro fo130_0 (And.intro of24 fo130_1))) (And.intro (And.intro of3 (And.intro fo27_1 Tryz.underlying22)) (And.intro (And.intro fo27_6 bd35) (And.intro sz35 Tryz.results73))))
theorem q75 : type_of% (And.intro (And.intro (And.intro (And.intro of126 al126) (And.intro fo27_5 of4)) (And.intro (And.intro fo27_0 of3) (And.intro fo27_1 (And.intro es30 fo27_2)))) (And.intro (And.intro (And.intro fo27_3 fo27_4) (And.intro fo27_6 (And.intro fo27_7 fo27_8))) (And.intro (And.intro fo27_9 fo27_10) (And.intro fo27_11 (And.intro sz126 Tryz.results75))))) := (And.intro (And.intro (And.intro (And.intro of126 al126) (And.intro fo27_5 of4)) (And.intro (And.intro fo27_0 of3) (And.intro fo27_1 (And.intro es30 fo27_2)))) (And.intro (And.intro (And.intro fo27_3 fo27_4) (And.intro fo27_6 (And.intro fo27_7 fo27_8))) (And.intro (And.intro fo27_9 fo27_10) (And.intro fo27_11 (And.intro sz126 Tryz.results75)))))
theorem q77 : type_of% (And.intro (And.intro (And.intro es30 (And.intro Tryz.underlying64 es64)) (And.intro (And.intro as64 of126) (And.intro al27 sz27))) (And.intro (And.intro fo27_0 (And.intro of3 of27)) (And.intro (And.intro es22 (fun tx => append_own (tx := tx) ei22)) (And.intro (fun tx => append_nil (tx := tx) ei22) Tryz.results77)))) := (And.intro (And.intro (And.intro es30 (And.intro Tryz.underlying64 es64)) (And.intro (And.intro as64 of126) (And.intro al27 sz27))) (And.intro (And.intro fo27_0 (And.intro of3 of27)) (And.intro (And.intro es22 (fun tx => append_own (tx := tx) ei22)) (And.intro (fun tx => append_nil (tx := tx) ei22) Tryz.results77))))
theorem q78 : type_of% (And.intro (And.intro fo27_7 of3) (And.intro fo27_8 (And.intro fo27_9 Tryz.results78))) := (And.intro (And.intro fo27_7 of3) (And.intro fo27_8 (And.intro fo27_9 Tryz.results78)))
theorem q79 : type_of% (And.intro (And.intro (And.intro Tryz.underlying22 al27) (And.intro sz27 (And.intro of27 es22))) (And.intro (And.intro (fun tx => append_own (tx := tx) ei22) (fun tx => append_nil (tx := tx) ei22)) (And.intro fo27_2 (And.intro of3 Tryz.results79)))) := (And.intro (And.intro (And.intro Tryz.underlying22 al27) (And.intro sz27 (And.intro of27 es22))) (And.intro (And.intro (fun tx => append_own (tx := tx) ei22) (fun tx => append_nil (tx := tx) ei22)) (And.intro fo27_2 (And.intro of3 Tryz.results79))))
theorem q109 : type_of% (And.intro (And.intro (And.intro (And.intro fo174_0 of24) (And.intro fo174_1 of3)) (And.intro (And.intro es30 Tryz.underlying64) (And.intro es64 (And.intro as64 of126)))) (And.intro (And.intro (And.intro al126 sz126) (And.intro al27 (And.intro sz27 fo27_0))) (And.intro (And.intro of27 es22) (And.intro (fun tx => append_own (tx := tx) ei22) (And.intro (fun tx => append_nil (tx := tx) ei22) Tryz.results109))))) := (And.intro (And.intro (And.intro (And.intro fo174_0 of24) (And.intro fo174_1 of3)) (And.intro (And.intro es30 Tryz.underlying64) (And.intro es64 (And.intro as64 of126)))) (And.intro (And.intro (And.intro al126 sz126) (And.intro al27 (And.intro sz27 fo27_0))) (And.intro (And.intro of27 es22) (And.intro (fun tx => append_own (tx := tx) ei22) (And.intro (fun tx => append_nil (tx := tx) ei22) Tryz.results109)))))
theorem q136 : type_of% (And.intro (And.intro of126 al126) (And.intro bd126 (And.intro sz126 Tryz.results136))) := (And.intro (And.intro of126 al126) (And.intro bd126 (And.intro sz126 Tryz.results136)))
theorem q139 : type_of% (And.intro (And.intro (And.intro of27 al27) (And.intro of126 bd27)) (And.intro (And.intro sz27 es30) (And.intro as30 (And.intro of3 Tryz.results139)))) := (And.intro (And.intro (And.intro of27 al27) (And.intro of126 bd27)) (And.intro (And.intro sz27 es30) (And.intro as30 (And.intro of3 Tryz.results139))))
theorem q140 : type_of% (And.intro (And.intro (And.intro of27 al27) (And.intro es30 (And.intro bd126 sz27))) (And.intro (And.intro fo27_0 of3) (And.intro fo27_1 (And.intro bd27 Tryz.results140)))) := (And.intro (And.intro (And.intro of27 al27) (And.intro es30 (And.intro bd126 sz27))) (And.intro (And.intro fo27_0 of3) (And.intro fo27_1 (And.intro bd27 Tryz.results140))))
theorem q164 : type_of% (And.intro (And.intro fo126_0 of124) (And.intro fo126_1 Tryz.results164)) := (And.intro (And.intro fo126_0 of124) (And.intro fo126_1 Tryz.results164))
theorem q199 : type_of% (And.intro Tryz.underlying30 Tryz.results199) := (And.intro Tryz.underlying30 Tryz.results199)
theorem q230 : type_of% (And.intro (And.intro (And.intro Tryz.underlying124 es30) (And.intro (fun tx => append_own (tx := tx) ei30) (fun tx => append_nil (tx := tx) ei30))) (And.intro (And.intro es124 as124) (And.intro of5 Tryz.results230))) := (And.intro (And.intro (And.intro Tryz.underlying124 es30) (And.intro (fun tx => append_own (tx := tx) ei30) (fun tx => append_nil (tx := tx) ei30))) (And.intro (And.intro es124 as124) (And.intro of5 Tryz.results230)))
end Go.Proofs.Lx
