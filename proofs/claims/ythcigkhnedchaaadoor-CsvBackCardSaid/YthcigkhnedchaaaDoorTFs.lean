/- What the types of this program say. -/
import Derived.Test.YthcigkhnedchaaaDoorV2
import Derived.Test.YthcigkhnedchaaaDoorProg
import Derived.KernelRfl
/- What the types of this program say: printed. -/
set_option linter.unusedSimpArgs false
set_option linter.unusedVariables false
namespace Go.Proofs.Lx
open Go.Vm
theorem as23 : arrSz Tryd.prog 23 = none := by kernel_rfl
theorem as27 : arrSz Tryd.prog 27 = none := by kernel_rfl
theorem as54 : arrSz Tryd.prog 54 = none := by kernel_rfl
theorem as56 : arrSz Tryd.prog 56 = some (6, 1) := by kernel_rfl
theorem as59 : arrSz Tryd.prog 59 = none := by kernel_rfl
theorem cv3_5 (n : Int) (s' s : Slots) (K : AV → Slots → Prop) : awpCvX Tryd.prog 3 5 (.v (.int .i64 n), s') (.v (.int .i64 n)) (.v (.int .i64 n)) s K = K (.v (.int .u8 (IntKind.u8.wrap n))) s := cvi (d := .int .i64) (by kernel_rfl) (by kernel_rfl) n s' s K
theorem cv5_3 (n : Int) (s' s : Slots) (K : AV → Slots → Prop) : awpCvX Tryd.prog 5 3 (.v (.int .u8 n), s') (.v (.int .u8 n)) (.v (.int .u8 n)) s K = K (.v (.int .i64 (IntKind.i64.wrap n))) s := cvi (d := .int .u8) (by kernel_rfl) (by kernel_rfl) n s' s K
theorem ei23 : elemIn Tryd.prog 23 = some (36, 6, 48) := by kernel_rfl
theorem ei27 : elemIn Tryd.prog 27 = some (42, 6, 48) := by kernel_rfl
theorem ei46 : elemIn Tryd.prog 46 = some (5, 1, 1) := by kernel_rfl
theorem ei54 : elemIn Tryd.prog 54 = some (9, 1, 16) := by kernel_rfl
theorem es23 : elemSz Tryd.prog 23 = some (36, 6) := by kernel_rfl
theorem es27 : elemSz Tryd.prog 27 = some (42, 6) := by kernel_rfl
theorem es46 : elemSz Tryd.prog 46 = some (5, 1) := by kernel_rfl
theorem es54 : elemSz Tryd.prog 54 = some (9, 1) := by kernel_rfl
theorem es59 : elemSz Tryd.prog 59 = some (3, 1) := by kernel_rfl
theorem fd36 : flatDs Tryd.prog 36 = some [.int .i64, .int .i64, .int .i64, .int .i64, .int .i64, .int .i64] := by kernel_rfl
theorem fd42 : flatDs Tryd.prog 42 = some [.int .i64, .int .i64, .int .i64, .int .i64, .int .i64, .int .i64] := by kernel_rfl
theorem fl36 : fieldsAt Tryd.prog 36 = some [(0, 1), (1, 1), (2, 1), (3, 1), (4, 1), (5, 1)] := by kernel_rfl
theorem fl42 : fieldsAt Tryd.prog 42 = some [(0, 1), (1, 1), (2, 1), (3, 1), (4, 1), (5, 1)] := by kernel_rfl
theorem fl56 : fieldsAt Tryd.prog 56 = some [(0, 1), (1, 1), (2, 1), (3, 1), (4, 1), (5, 1)] := by kernel_rfl
theorem fo36_0 : fieldOf Tryd.prog 36 0 = some (0, 3) := by kernel_rfl
theorem fo36_1 : fieldOf Tryd.prog 36 1 = some (1, 3) := by kernel_rfl
theorem fo36_2 : fieldOf Tryd.prog 36 2 = some (2, 3) := by kernel_rfl
theorem fo36_3 : fieldOf Tryd.prog 36 3 = some (3, 3) := by kernel_rfl
theorem fo36_4 : fieldOf Tryd.prog 36 4 = some (4, 3) := by kernel_rfl
theorem fo36_5 : fieldOf Tryd.prog 36 5 = some (5, 3) := by kernel_rfl
theorem fo42_0 : fieldOf Tryd.prog 42 0 = some (0, 3) := by kernel_rfl
theorem fo42_1 : fieldOf Tryd.prog 42 1 = some (1, 3) := by kernel_rfl
theorem fo42_2 : fieldOf Tryd.prog 42 2 = some (2, 3) := by kernel_rfl
theorem fo42_3 : fieldOf Tryd.prog 42 3 = some (3, 3) := by kernel_rfl
theorem fo42_4 : fieldOf Tryd.prog 42 4 = some (4, 3) := by kernel_rfl
theorem fo42_5 : fieldOf Tryd.prog 42 5 = some (5, 3) := by kernel_rfl
theorem of3 (c : AV) (cs : List AV) (K : AV → Prop) : ofCells Tryd.prog 3 (c :: cs) K = K (val c) := ofCells_one (by kernel_rfl) c cs K
theorem of9 (c : AV) (cs : List AV) (K : AV → Prop) : ofCells Tryd.prog 9 (c :: cs) K = K (val c) := ofCells_one (by kernel_rfl) c cs K
theorem of36 (cs : List AV) (K : AV → Prop) : ofCells Tryd.prog 36 cs K = (6 ≤ cs.length ∧ K (.agg (cs.take 6))) := ofCells_agg (by kernel_rfl) cs K
theorem of42 (cs : List AV) (K : AV → Prop) : ofCells Tryd.prog 42 cs K = (6 ≤ cs.length ∧ K (.agg (cs.take 6))) := ofCells_agg (by kernel_rfl) cs K
theorem of56 (cs : List AV) (K : AV → Prop) : ofCells Tryd.prog 56 cs K = (6 ≤ cs.length ∧ K (.agg (cs.take 6))) := ofCells_agg (by kernel_rfl) cs K
theorem sz3 : szT Tryd.prog 3 = some 1 := by kernel_rfl
theorem sz9 : szT Tryd.prog 9 = some 1 := by kernel_rfl
theorem sz36 : szT Tryd.prog 36 = some 6 := by kernel_rfl
theorem sz42 : szT Tryd.prog 42 = some 6 := by kernel_rfl
theorem sz56 : szT Tryd.prog 56 = some 6 := by kernel_rfl
theorem z5 : (Tryd.prog.info? 5).bind (·.zero) = some (.int .u8 0) := by kernel_rfl
theorem z9 : (Tryd.prog.info? 9).bind (·.zero) = some (.string ByteArray.empty) := by kernel_rfl
theorem z36 : (Tryd.prog.info? 36).bind (·.zero) = some (.agg #[.int .i64 0, .int .i64 0, .int .i64 0, .int .i64 0, .int .i64 0, .int .i64 0]) := by kernel_rfl
theorem z42 : (Tryd.prog.info? 42).bind (·.zero) = some (.agg #[.int .i64 0, .int .i64 0, .int .i64 0, .int .i64 0, .int .i64 0, .int .i64 0]) := by kernel_rfl
theorem z56 : (Tryd.prog.info? 56).bind (·.zero) = some (.agg #[.int .i64 0, .int .i64 0, .int .i64 0, .int .i64 0, .int .i64 0, .int .i64 0]) := by kernel_rfl
theorem zr3 : ((Tryd.prog.info? 3).any fun i => i.zero.isSome) = true := by kernel_rfl
theorem zr5 : ((Tryd.prog.info? 5).any fun i => i.zero.isSome) = true := by kernel_rfl
theorem zr9 : ((Tryd.prog.info? 9).any fun i => i.zero.isSome) = true := by kernel_rfl
theorem zr36 : ((Tryd.prog.info? 36).any fun i => i.zero.isSome) = true := by kernel_rfl
theorem zr42 : ((Tryd.prog.info? 42).any fun i => i.zero.isSome) = true := by kernel_rfl
theorem al36 (K : AV → Prop) : awpAlloc ((Tryd.prog.info? 36).bind (·.zero)) K = K (.box [.v (.int .i64 0), .v (.int .i64 0), .v (.int .i64 0), .v (.int .i64 0), .v (.int .i64 0), .v (.int .i64 0)]) := alloc_eq z36 rfl rfl K
theorem al42 (K : AV → Prop) : awpAlloc ((Tryd.prog.info? 42).bind (·.zero)) K = K (.box [.v (.int .i64 0), .v (.int .i64 0), .v (.int .i64 0), .v (.int .i64 0), .v (.int .i64 0), .v (.int .i64 0)]) := alloc_eq z42 rfl rfl K
theorem al56 (K : AV → Prop) : awpAlloc ((Tryd.prog.info? 56).bind (·.zero)) K = K (.box [.v (.int .i64 0), .v (.int .i64 0), .v (.int .i64 0), .v (.int .i64 0), .v (.int .i64 0), .v (.int .i64 0)]) := alloc_eq z56 rfl rfl K
theorem bd36 (parts : List (Nat × AV)) (K : AV → Prop) : awpBuild Tryd.prog 36 parts K = bldE [(0, 1), (1, 1), (2, 1), (3, 1), (4, 1), (5, 1)] [.v (.int .i64 0), .v (.int .i64 0), .v (.int .i64 0), .v (.int .i64 0), .v (.int .i64 0), .v (.int .i64 0)] K parts := build_eq fl36 z36 rfl parts K
theorem bd42 (parts : List (Nat × AV)) (K : AV → Prop) : awpBuild Tryd.prog 42 parts K = bldE [(0, 1), (1, 1), (2, 1), (3, 1), (4, 1), (5, 1)] [.v (.int .i64 0), .v (.int .i64 0), .v (.int .i64 0), .v (.int .i64 0), .v (.int .i64 0), .v (.int .i64 0)] K parts := build_eq fl42 z42 rfl parts K
theorem bd56 (parts : List (Nat × AV)) (K : AV → Prop) : awpBuild Tryd.prog 56 parts K = bldE [(0, 1), (1, 1), (2, 1), (3, 1), (4, 1), (5, 1)] [.v (.int .i64 0), .v (.int .i64 0), .v (.int .i64 0), .v (.int .i64 0), .v (.int .i64 0), .v (.int .i64 0)] K parts := build_eq fl56 z56 rfl parts K
theorem q3 : type_of% (And.intro Tryd.underlying9 Tryd.results3) := (And.intro Tryd.underlying9 Tryd.results3)
theorem q4 : type_of% (And.intro Tryd.underlying23 (And.intro Tryd.underlying9 Tryd.results4)) := (And.intro Tryd.underlying23 (And.intro Tryd.underlying9 Tryd.results4))
theorem q5 : type_of% (And.intro bd36 (And.intro es23 Tryd.results5)) := (And.intro bd36 (And.intro es23 Tryd.results5))
theorem q6 : type_of% (And.intro (And.intro (And.intro Tryd.underlying9 al36) (And.intro sz36 of36)) (And.intro (And.intro es23 (fun tx => append_own (tx := tx) ei23)) (And.intro (fun tx => append_nil (tx := tx) ei23) Tryd.results6))) := (And.intro (And.intro (And.intro Tryd.underlying9 al36) (And.intro sz36 of36)) (And.intro (And.intro es23 (fun tx => append_own (tx := tx) ei23)) (And.intro (fun tx => append_nil (tx := tx) ei23) Tryd.results6)))
theorem q7 : type_of% (And.intro (And.intro (And.intro Tryd.underlying9 al42) (And.intro sz42 of42)) (And.intro (And.intro es27 (fun tx => append_own (tx := tx) ei27)) (And.intro (fun tx => append_nil (tx := tx) ei27) Tryd.results7))) := (And.intro (And.intro (And.intro Tryd.underlying9 al42) (And.intro sz42 of42)) (And.intro (And.intro es27 (fun tx => append_own (tx := tx) ei27)) (And.intro (fun tx => append_nil (tx := tx) ei27) Tryd.results7)))
theorem q8 : type_of% (And.intro (And.intro Tryd.underlying27 es27) (And.intro as27 (And.intro of42 Tryd.results8))) := (And.intro (And.intro Tryd.underlying27 es27) (And.intro as27 (And.intro of42 Tryd.results8)))
theorem q9 : type_of% (And.intro (And.intro (And.intro (And.intro Tryd.underlying23 es23) (And.intro as23 of36)) (And.intro (And.intro al36 sz36) (And.intro fo36_0 (And.intro of3 fo36_1)))) (And.intro (And.intro (And.intro fo36_2 fo36_3) (And.intro fo36_4 fo36_5)) (And.intro (And.intro bd42 es27) (And.intro (fun tx => append_own (tx := tx) ei27) (And.intro (fun tx => append_nil (tx := tx) ei27) Tryd.results9))))) := (And.intro (And.intro (And.intro (And.intro Tryd.underlying23 es23) (And.intro as23 of36)) (And.intro (And.intro al36 sz36) (And.intro fo36_0 (And.intro of3 fo36_1)))) (And.intro (And.intro (And.intro fo36_2 fo36_3) (And.intro fo36_4 fo36_5)) (And.intro (And.intro bd42 es27) (And.intro (fun tx => append_own (tx := tx) ei27) (And.intro (fun tx => append_nil (tx := tx) ei27) Tryd.results9)))))
theorem q11 : type_of% (And.intro (And.intro Tryd.underlying23 es23) (And.intro as23 (And.intro of36 Tryd.results11))) := (And.intro (And.intro Tryd.underlying23 es23) (And.intro as23 (And.intro of36 Tryd.results11)))
theorem q12 : type_of% Tryd.results12 := Tryd.results12
theorem q13 : type_of% (And.intro (And.intro (And.intro of36 (And.intro al36 al56)) (And.intro Tryd.underlying54 (And.intro bd36 sz36))) (And.intro (And.intro es54 (And.intro as54 of9)) (And.intro (And.intro as56 sz3) (And.intro of56 Tryd.results13)))) := (And.intro (And.intro (And.intro of36 (And.intro al36 al56)) (And.intro Tryd.underlying54 (And.intro bd36 sz36))) (And.intro (And.intro es54 (And.intro as54 of9)) (And.intro (And.intro as56 sz3) (And.intro of56 Tryd.results13))))
theorem q14 : type_of% (And.intro (And.intro (And.intro of42 al42) (And.intro al56 (And.intro Tryd.underlying9 as56))) (And.intro (And.intro sz3 of3) (And.intro bd42 (And.intro sz42 Tryd.results14)))) := (And.intro (And.intro (And.intro of42 al42) (And.intro al56 (And.intro Tryd.underlying9 as56))) (And.intro (And.intro sz3 of3) (And.intro bd42 (And.intro sz42 Tryd.results14))))
theorem q15 : type_of% (And.intro (And.intro (And.intro fo42_0 of3) (And.intro fo42_1 (And.intro fo42_2 fo42_3))) (And.intro (And.intro fo42_4 (And.intro fo42_5 es59)) (And.intro Tryd.underlying59 (And.intro as59 Tryd.results15)))) := (And.intro (And.intro (And.intro fo42_0 of3) (And.intro fo42_1 (And.intro fo42_2 fo42_3))) (And.intro (And.intro fo42_4 (And.intro fo42_5 es59)) (And.intro Tryd.underlying59 (And.intro as59 Tryd.results15))))
theorem q17 : type_of% (And.intro (And.intro of36 es54) (And.intro (fun tx => append_own (tx := tx) ei54) (And.intro (fun tx => append_nil (tx := tx) ei54) Tryd.results17))) := (And.intro (And.intro of36 es54) (And.intro (fun tx => append_own (tx := tx) ei54) (And.intro (fun tx => append_nil (tx := tx) ei54) Tryd.results17)))
theorem q19 : type_of% (And.intro Tryd.underlying9 Tryd.results19) := (And.intro Tryd.underlying9 Tryd.results19)
theorem q20 : type_of% Tryd.results20 := Tryd.results20
theorem q21 : type_of% (And.intro Tryd.underlying9 (And.intro cv5_3 Tryd.results21)) := (And.intro Tryd.underlying9 (And.intro cv5_3 Tryd.results21))
theorem q22 : type_of% (And.intro (And.intro of36 (And.intro al36 as56)) (And.intro (And.intro of3 bd36) (And.intro sz36 Tryd.results22))) := (And.intro (And.intro of36 (And.intro al36 as56)) (And.intro (And.intro of3 bd36) (And.intro sz36 Tryd.results22)))
theorem q23 : type_of% (And.intro Tryd.underlying9 (And.intro cv5_3 Tryd.results23)) := (And.intro Tryd.underlying9 (And.intro cv5_3 Tryd.results23))
theorem q24 : type_of% Tryd.results24 := Tryd.results24
theorem q26 : type_of% (And.intro (And.intro (And.intro of56 (And.intro al56 fo36_0)) (And.intro of3 (And.intro fo36_1 fo36_2))) (And.intro (And.intro fo36_3 (And.intro fo36_4 fo36_5)) (And.intro bd56 (And.intro sz56 Tryd.results26)))) := (And.intro (And.intro (And.intro of56 (And.intro al56 fo36_0)) (And.intro of3 (And.intro fo36_1 fo36_2))) (And.intro (And.intro fo36_3 (And.intro fo36_4 fo36_5)) (And.intro bd56 (And.intro sz56 Tryd.results26))))
theorem q29 : type_of% (And.intro Tryd.underlying9 (And.intro of3 Tryd.results29)) := (And.intro Tryd.underlying9 (And.intro of3 Tryd.results29))
theorem q30 : type_of% (And.intro (And.intro Tryd.underlying9 es54) (And.intro as54 (And.intro sz9 Tryd.results30))) := (And.intro (And.intro Tryd.underlying9 es54) (And.intro as54 (And.intro sz9 Tryd.results30)))
theorem q31 : type_of% Tryd.results31 := Tryd.results31
theorem q32 : type_of% Tryd.results32 := Tryd.results32
theorem q35 : type_of% (And.intro (And.intro cv3_5 es46) (And.intro (fun tx => append_own (tx := tx) ei46) (And.intro (fun tx => append_nil (tx := tx) ei46) Tryd.results35))) := (And.intro (And.intro cv3_5 es46) (And.intro (fun tx => append_own (tx := tx) ei46) (And.intro (fun tx => append_nil (tx := tx) ei46) Tryd.results35)))
theorem q43 : type_of% Tryd.results43 := Tryd.results43
theorem q44 : type_of% (And.intro Tryd.underlying9 Tryd.results44) := (And.intro Tryd.underlying9 Tryd.results44)
theorem q51 : type_of% (And.intro Tryd.underlying9 Tryd.results51) := (And.intro Tryd.underlying9 Tryd.results51)
end Go.Proofs.Lx
