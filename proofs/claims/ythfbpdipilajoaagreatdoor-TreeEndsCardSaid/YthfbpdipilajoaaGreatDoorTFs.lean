/- What the types of this program say. -/
import Derived.Test.YthfbpdipilajoaaGreatDoorV2
import Derived.Test.YthfbpdipilajoaaGreatDoorProg
import Derived.KernelRfl
/- What the types of this program say: printed. -/
set_option linter.unusedSimpArgs false
set_option linter.unusedVariables false
namespace Go.Proofs.Lx
open Go.Vm
theorem as23 : arrSz Tryz.prog 23 = none := by kernel_rfl
theorem as40 : arrSz Tryz.prog 40 = none := by kernel_rfl
theorem as41 : arrSz Tryz.prog 41 = none := by kernel_rfl
theorem as45 : arrSz Tryz.prog 45 = none := by kernel_rfl
theorem bt45 : bytesT Tryz.prog 45 = true := by kernel_rfl
theorem cv3_233 (n : Int) (s' s : Slots) (K : AV → Slots → Prop) : awpCvX Tryz.prog 3 233 (.v (.int .i64 n), s') (.v (.int .i64 n)) (.v (.int .i64 n)) s K = K (.v (.int .u64 (IntKind.u64.wrap n))) s := cvi (d := .int .i64) (by kernel_rfl) (by kernel_rfl) n s' s K
theorem cv5_233 (n : Int) (s' s : Slots) (K : AV → Slots → Prop) : awpCvX Tryz.prog 5 233 (.v (.int .u8 n), s') (.v (.int .u8 n)) (.v (.int .u8 n)) s K = K (.v (.int .u64 (IntKind.u64.wrap n))) s := cvi (d := .int .u8) (by kernel_rfl) (by kernel_rfl) n s' s K
theorem cv65_3 (n : Int) (s' s : Slots) (K : AV → Slots → Prop) : awpCvX Tryz.prog 65 3 (.v (.int .u16 n), s') (.v (.int .u16 n)) (.v (.int .u16 n)) s K = K (.v (.int .i64 (IntKind.i64.wrap n))) s := cvi (d := .int .u16) (by kernel_rfl) (by kernel_rfl) n s' s K
theorem cv233_3 (n : Int) (s' s : Slots) (K : AV → Slots → Prop) : awpCvX Tryz.prog 233 3 (.v (.int .u64 n), s') (.v (.int .u64 n)) (.v (.int .u64 n)) s K = K (.v (.int .i64 (IntKind.i64.wrap n))) s := cvi (d := .int .u64) (by kernel_rfl) (by kernel_rfl) n s' s K
theorem cv233_5 (n : Int) (s' s : Slots) (K : AV → Slots → Prop) : awpCvX Tryz.prog 233 5 (.v (.int .u64 n), s') (.v (.int .u64 n)) (.v (.int .u64 n)) s K = K (.v (.int .u8 (IntKind.u8.wrap n))) s := cvi (d := .int .u64) (by kernel_rfl) (by kernel_rfl) n s' s K
theorem ei23 : elemIn Tryz.prog 23 = some (25, 12, 96) := by kernel_rfl
theorem ei40 : elemIn Tryz.prog 40 = some (47, 2, 48) := by kernel_rfl
theorem ei41 : elemIn Tryz.prog 41 = some (3, 1, 8) := by kernel_rfl
theorem ei45 : elemIn Tryz.prog 45 = some (5, 1, 1) := by kernel_rfl
theorem es23 : elemSz Tryz.prog 23 = some (25, 12) := by kernel_rfl
theorem es40 : elemSz Tryz.prog 40 = some (47, 2) := by kernel_rfl
theorem es41 : elemSz Tryz.prog 41 = some (3, 1) := by kernel_rfl
theorem es45 : elemSz Tryz.prog 45 = some (5, 1) := by kernel_rfl
theorem fl25 : fieldsAt Tryz.prog 25 = some [(0, 1), (1, 1), (2, 1), (3, 1), (4, 1), (5, 1), (6, 1), (7, 1), (8, 1), (9, 1), (10, 1), (11, 1)] := by kernel_rfl
theorem fl47 : fieldsAt Tryz.prog 47 = some [(0, 1), (1, 1)] := by kernel_rfl
theorem fl117 : fieldsAt Tryz.prog 117 = some [(0, 1), (1, 1)] := by kernel_rfl
theorem fl126 : fieldsAt Tryz.prog 126 = some [(0, 1), (1, 1), (2, 1), (3, 1)] := by kernel_rfl
theorem fl134 : fieldsAt Tryz.prog 134 = some [(0, 1), (1, 1)] := by kernel_rfl
theorem fl217 : fieldsAt Tryz.prog 217 = some [(0, 1), (1, 1), (2, 1)] := by kernel_rfl
theorem fo25_0 : fieldOf Tryz.prog 25 0 = some (0, 3) := by kernel_rfl
theorem fo25_1 : fieldOf Tryz.prog 25 1 = some (1, 3) := by kernel_rfl
theorem fo25_2 : fieldOf Tryz.prog 25 2 = some (2, 3) := by kernel_rfl
theorem fo25_3 : fieldOf Tryz.prog 25 3 = some (3, 3) := by kernel_rfl
theorem fo25_4 : fieldOf Tryz.prog 25 4 = some (4, 3) := by kernel_rfl
theorem fo25_5 : fieldOf Tryz.prog 25 5 = some (5, 4) := by kernel_rfl
theorem fo25_6 : fieldOf Tryz.prog 25 6 = some (6, 3) := by kernel_rfl
theorem fo25_7 : fieldOf Tryz.prog 25 7 = some (7, 3) := by kernel_rfl
theorem fo25_8 : fieldOf Tryz.prog 25 8 = some (8, 3) := by kernel_rfl
theorem fo25_9 : fieldOf Tryz.prog 25 9 = some (9, 3) := by kernel_rfl
theorem fo25_10 : fieldOf Tryz.prog 25 10 = some (10, 3) := by kernel_rfl
theorem fo25_11 : fieldOf Tryz.prog 25 11 = some (11, 3) := by kernel_rfl
theorem fo47_0 : fieldOf Tryz.prog 47 0 = some (0, 45) := by kernel_rfl
theorem fo47_1 : fieldOf Tryz.prog 47 1 = some (1, 45) := by kernel_rfl
theorem fo117_0 : fieldOf Tryz.prog 117 0 = some (0, 26) := by kernel_rfl
theorem fo117_1 : fieldOf Tryz.prog 117 1 = some (1, 3) := by kernel_rfl
theorem fo126_0 : fieldOf Tryz.prog 126 0 = some (0, 123) := by kernel_rfl
theorem fo126_1 : fieldOf Tryz.prog 126 1 = some (1, 121) := by kernel_rfl
theorem fo126_2 : fieldOf Tryz.prog 126 2 = some (2, 124) := by kernel_rfl
theorem fo126_3 : fieldOf Tryz.prog 126 3 = some (3, 30) := by kernel_rfl
theorem fo134_0 : fieldOf Tryz.prog 134 0 = some (0, 45) := by kernel_rfl
theorem fo134_1 : fieldOf Tryz.prog 134 1 = some (1, 4) := by kernel_rfl
theorem fo217_0 : fieldOf Tryz.prog 217 0 = some (0, 5) := by kernel_rfl
theorem fo217_1 : fieldOf Tryz.prog 217 1 = some (1, 3) := by kernel_rfl
theorem fo217_2 : fieldOf Tryz.prog 217 2 = some (2, 3) := by kernel_rfl
theorem mt123 : MapT Tryz.prog 123 9 134 (.string) := ⟨by kernel_rfl, by kernel_rfl⟩
theorem mt124 : MapT Tryz.prog 124 9 45 (.string) := ⟨by kernel_rfl, by kernel_rfl⟩
theorem of3 (c : AV) (cs : List AV) (K : AV → Prop) : ofCells Tryz.prog 3 (c :: cs) K = K (val c) := ofCells_one (by kernel_rfl) c cs K
theorem of4 (c : AV) (cs : List AV) (K : AV → Prop) : ofCells Tryz.prog 4 (c :: cs) K = K (val c) := ofCells_one (by kernel_rfl) c cs K
theorem of5 (c : AV) (cs : List AV) (K : AV → Prop) : ofCells Tryz.prog 5 (c :: cs) K = K (val c) := ofCells_one (by kernel_rfl) c cs K
theorem of25 (cs : List AV) (K : AV → Prop) : ofCells Tryz.prog 25 cs K = (12 ≤ cs.length ∧ K (.agg (cs.take 12))) := ofCells_agg (by kernel_rfl) cs K
theorem of26 (c : AV) (cs : List AV) (K : AV → Prop) : ofCells Tryz.prog 26 (c :: cs) K = K (val c) := ofCells_one (by kernel_rfl) c cs K
theorem of30 (c : AV) (cs : List AV) (K : AV → Prop) : ofCells Tryz.prog 30 (c :: cs) K = K (val c) := ofCells_one (by kernel_rfl) c cs K
theorem of45 (c : AV) (cs : List AV) (K : AV → Prop) : ofCells Tryz.prog 45 (c :: cs) K = K (val c) := ofCells_one (by kernel_rfl) c cs K
theorem of47 (cs : List AV) (K : AV → Prop) : ofCells Tryz.prog 47 cs K = (2 ≤ cs.length ∧ K (.agg (cs.take 2))) := ofCells_agg (by kernel_rfl) cs K
theorem of117 (cs : List AV) (K : AV → Prop) : ofCells Tryz.prog 117 cs K = (2 ≤ cs.length ∧ K (.agg (cs.take 2))) := ofCells_agg (by kernel_rfl) cs K
theorem of121 (c : AV) (cs : List AV) (K : AV → Prop) : ofCells Tryz.prog 121 (c :: cs) K = K (val c) := ofCells_one (by kernel_rfl) c cs K
theorem of123 (c : AV) (cs : List AV) (K : AV → Prop) : ofCells Tryz.prog 123 (c :: cs) K = K (val c) := ofCells_one (by kernel_rfl) c cs K
theorem of124 (c : AV) (cs : List AV) (K : AV → Prop) : ofCells Tryz.prog 124 (c :: cs) K = K (val c) := ofCells_one (by kernel_rfl) c cs K
theorem of134 (cs : List AV) (K : AV → Prop) : ofCells Tryz.prog 134 cs K = (2 ≤ cs.length ∧ K (.agg (cs.take 2))) := ofCells_agg (by kernel_rfl) cs K
theorem of217 (cs : List AV) (K : AV → Prop) : ofCells Tryz.prog 217 cs K = (3 ≤ cs.length ∧ K (.agg (cs.take 3))) := ofCells_agg (by kernel_rfl) cs K
theorem sz3 : szT Tryz.prog 3 = some 1 := by kernel_rfl
theorem sz25 : szT Tryz.prog 25 = some 12 := by kernel_rfl
theorem sz47 : szT Tryz.prog 47 = some 2 := by kernel_rfl
theorem sz117 : szT Tryz.prog 117 = some 2 := by kernel_rfl
theorem sz134 : szT Tryz.prog 134 = some 2 := by kernel_rfl
theorem sz217 : szT Tryz.prog 217 = some 3 := by kernel_rfl
theorem z3 : (Tryz.prog.info? 3).bind (·.zero) = some (.int .i64 0) := by kernel_rfl
theorem z5 : (Tryz.prog.info? 5).bind (·.zero) = some (.int .u8 0) := by kernel_rfl
theorem z25 : (Tryz.prog.info? 25).bind (·.zero) = some (.agg #[.int .i64 0, .int .i64 0, .int .i64 0, .int .i64 0, .int .i64 0, .bool false, .int .i64 0, .int .i64 0, .int .i64 0, .int .i64 0, .int .i64 0, .int .i64 0]) := by kernel_rfl
theorem z45 : (Tryz.prog.info? 45).bind (·.zero) = some (.slice none 0 0) := by kernel_rfl
theorem z47 : (Tryz.prog.info? 47).bind (·.zero) = some (.agg #[.slice none 0 0, .slice none 0 0]) := by kernel_rfl
theorem z117 : (Tryz.prog.info? 117).bind (·.zero) = some (.agg #[.pointer none, .int .i64 0]) := by kernel_rfl
theorem z126 : (Tryz.prog.info? 126).bind (·.zero) = some (.agg #[.map none, .pointer none, .map none, .int .i64 0]) := by kernel_rfl
theorem z134 : (Tryz.prog.info? 134).bind (·.zero) = some (.agg #[.slice none 0 0, .bool false]) := by kernel_rfl
theorem z217 : (Tryz.prog.info? 217).bind (·.zero) = some (.agg #[.int .u8 0, .int .i64 0, .int .i64 0]) := by kernel_rfl
theorem zr3 : ((Tryz.prog.info? 3).any fun i => i.zero.isSome) = true := by kernel_rfl
theorem zr5 : ((Tryz.prog.info? 5).any fun i => i.zero.isSome) = true := by kernel_rfl
theorem zr25 : ((Tryz.prog.info? 25).any fun i => i.zero.isSome) = true := by kernel_rfl
theorem zr47 : ((Tryz.prog.info? 47).any fun i => i.zero.isSome) = true := by kernel_rfl
theorem al25 (K : AV → Prop) : awpAlloc ((Tryz.prog.info? 25).bind (·.zero)) K = K (.box [.v (.int .i64 0), .v (.int .i64 0), .v (.int .i64 0), .v (.int .i64 0), .v (.int .i64 0), .v (.bool false), .v (.int .i64 0), .v (.int .i64 0), .v (.int .i64 0), .v (.int .i64 0), .v (.int .i64 0), .v (.int .i64 0)]) := alloc_eq z25 rfl rfl K
theorem al47 (K : AV → Prop) : awpAlloc ((Tryz.prog.info? 47).bind (·.zero)) K = K (.box [.v (.slice none 0 0), .v (.slice none 0 0)]) := alloc_eq z47 rfl rfl K
theorem al117 (K : AV → Prop) : awpAlloc ((Tryz.prog.info? 117).bind (·.zero)) K = K (.box [.v (.pointer none), .v (.int .i64 0)]) := alloc_eq z117 rfl rfl K
theorem al134 (K : AV → Prop) : awpAlloc ((Tryz.prog.info? 134).bind (·.zero)) K = K (.box [.v (.slice none 0 0), .v (.bool false)]) := alloc_eq z134 rfl rfl K
theorem al217 (K : AV → Prop) : awpAlloc ((Tryz.prog.info? 217).bind (·.zero)) K = K (.box [.v (.int .u8 0), .v (.int .i64 0), .v (.int .i64 0)]) := alloc_eq z217 rfl rfl K
theorem bd25 (parts : List (Nat × AV)) (K : AV → Prop) : awpBuild Tryz.prog 25 parts K = bldE [(0, 1), (1, 1), (2, 1), (3, 1), (4, 1), (5, 1), (6, 1), (7, 1), (8, 1), (9, 1), (10, 1), (11, 1)] [.v (.int .i64 0), .v (.int .i64 0), .v (.int .i64 0), .v (.int .i64 0), .v (.int .i64 0), .v (.bool false), .v (.int .i64 0), .v (.int .i64 0), .v (.int .i64 0), .v (.int .i64 0), .v (.int .i64 0), .v (.int .i64 0)] K parts := build_eq fl25 z25 rfl parts K
theorem bd47 (parts : List (Nat × AV)) (K : AV → Prop) : awpBuild Tryz.prog 47 parts K = bldE [(0, 1), (1, 1)] [.v (.slice none 0 0), .v (.slice none 0 0)] K parts := build_eq fl47 z47 rfl parts K
theorem bd117 (parts : List (Nat × AV)) (K : AV → Prop) : awpBuild Tryz.prog 117 parts K = bldE [(0, 1), (1, 1)] [.v (.pointer none), .v (.int .i64 0)] K parts := build_eq fl117 z117 rfl parts K
theorem bd217 (parts : List (Nat × AV)) (K : AV → Prop) : awpBuild Tryz.prog 217 parts K = bldE [(0, 1), (1, 1), (2, 1)] [.v (.int .u8 0), .v (.int .i64 0), .v (.int .i64 0)] K parts := build_eq fl217 z217 rfl parts K
theorem q9 : type_of% (And.intro (And.intro (And.intro Tryz.underlying23 (And.intro es23 as23)) (And.intro of25 (And.intro al25 sz25))) (And.intro (And.intro fo25_0 (And.intro sz3 cv65_3)) (And.intro (And.intro fo25_1 of3) (And.intro fo25_2 Tryz.results9)))) := (And.intro (And.intro (And.intro Tryz.underlying23 (And.intro es23 as23)) (And.intro of25 (And.intro al25 sz25))) (And.intro (And.intro fo25_0 (And.intro sz3 cv65_3)) (And.intro (And.intro fo25_1 of3) (And.intro fo25_2 Tryz.results9))))
theorem q15 : type_of% (And.intro (And.intro of25 al25) (And.intro bd117 (And.intro sz25 Tryz.results15))) := (And.intro (And.intro of25 al25) (And.intro bd117 (And.intro sz25 Tryz.results15)))
theorem q52 : type_of% (And.intro (And.intro bd25 (And.intro Tryz.underlying23 es23)) (And.intro (And.intro as23 fo25_1) (And.intro of3 Tryz.results52))) := (And.intro (And.intro bd25 (And.intro Tryz.underlying23 es23)) (And.intro (And.intro as23 fo25_1) (And.intro of3 Tryz.results52)))
theorem q60 : type_of% Tryz.results60 := Tryz.results60
theorem q63 : type_of% (And.intro bd117 Tryz.results63) := (And.intro bd117 Tryz.results63)
theorem q65 : type_of% (And.intro (And.intro (And.intro Tryz.underlying23 es23) (And.intro as23 of25)) (And.intro (And.intro al25 sz25) (And.intro fo25_6 (And.intro of3 Tryz.results65)))) := (And.intro (And.intro (And.intro Tryz.underlying23 es23) (And.intro as23 of25)) (And.intro (And.intro al25 sz25) (And.intro fo25_6 (And.intro of3 Tryz.results65))))
theorem q133 : type_of% (And.intro fo25_2 (And.intro of3 Tryz.results133)) := (And.intro fo25_2 (And.intro of3 Tryz.results133))
theorem q134 : type_of% (And.intro (And.intro (And.intro (And.intro fo117_0 of26) (And.intro fo117_1 of3)) (And.intro (And.intro es41 Tryz.underlying40) (And.intro es40 (And.intro as40 of47)))) (And.intro (And.intro (And.intro al47 sz47) (And.intro al25 (And.intro sz25 fo25_0))) (And.intro (And.intro of25 es23) (And.intro (fun tx => append_own (tx := tx) ei23) (And.intro (fun tx => append_nil (tx := tx) ei23) Tryz.results134))))) := (And.intro (And.intro (And.intro (And.intro fo117_0 of26) (And.intro fo117_1 of3)) (And.intro (And.intro es41 Tryz.underlying40) (And.intro es40 (And.intro as40 of47)))) (And.intro (And.intro (And.intro al47 sz47) (And.intro al25 (And.intro sz25 fo25_0))) (And.intro (And.intro of25 es23) (And.intro (fun tx => append_own (tx := tx) ei23) (And.intro (fun tx => append_nil (tx := tx) ei23) Tryz.results134)))))
end Go.Proofs.Lx
