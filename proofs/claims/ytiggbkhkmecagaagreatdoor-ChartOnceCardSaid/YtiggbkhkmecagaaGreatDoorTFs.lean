/- What the types of this program say. -/
import Derived.Test.YtiggbkhkmecagaaGreatDoorV2
import Derived.Test.YtiggbkhkmecagaaGreatDoorProg
import Derived.KernelRfl
/- What the types of this program say: printed. -/
set_option linter.unusedSimpArgs false
set_option linter.unusedVariables false
namespace Go.Proofs.Lx
open Go.Vm
theorem as22 : arrSz Tryz.prog 22 = none := by kernel_rfl
theorem as28 : arrSz Tryz.prog 28 = none := by kernel_rfl
theorem as32 : arrSz Tryz.prog 32 = none := by kernel_rfl
theorem as65 : arrSz Tryz.prog 65 = none := by kernel_rfl
theorem bt32 : bytesT Tryz.prog 32 = true := by kernel_rfl
theorem cv3_5 (n : Int) (s' s : Slots) (K : AV → Slots → Prop) : awpCvX Tryz.prog 3 5 (.v (.int .i64 n), s') (.v (.int .i64 n)) (.v (.int .i64 n)) s K = K (.v (.int .u8 (IntKind.u8.wrap n))) s := cvi (d := .int .i64) (by kernel_rfl) (by kernel_rfl) n s' s K
theorem cv3_270 (n : Int) (s' s : Slots) (K : AV → Slots → Prop) : awpCvX Tryz.prog 3 270 (.v (.int .i64 n), s') (.v (.int .i64 n)) (.v (.int .i64 n)) s K = K (.v (.int .u64 (IntKind.u64.wrap n))) s := cvi (d := .int .i64) (by kernel_rfl) (by kernel_rfl) n s' s K
theorem cv5_270 (n : Int) (s' s : Slots) (K : AV → Slots → Prop) : awpCvX Tryz.prog 5 270 (.v (.int .u8 n), s') (.v (.int .u8 n)) (.v (.int .u8 n)) s K = K (.v (.int .u64 (IntKind.u64.wrap n))) s := cvi (d := .int .u8) (by kernel_rfl) (by kernel_rfl) n s' s K
theorem cv26_3 (n : Int) (s' s : Slots) (K : AV → Slots → Prop) : awpCvX Tryz.prog 26 3 (.v (.int .u16 n), s') (.v (.int .u16 n)) (.v (.int .u16 n)) s K = K (.v (.int .i64 (IntKind.i64.wrap n))) s := cvi (d := .int .u16) (by kernel_rfl) (by kernel_rfl) n s' s K
theorem cv270_3 (n : Int) (s' s : Slots) (K : AV → Slots → Prop) : awpCvX Tryz.prog 270 3 (.v (.int .u64 n), s') (.v (.int .u64 n)) (.v (.int .u64 n)) s K = K (.v (.int .i64 (IntKind.i64.wrap n))) s := cvi (d := .int .u64) (by kernel_rfl) (by kernel_rfl) n s' s K
theorem cv270_5 (n : Int) (s' s : Slots) (K : AV → Slots → Prop) : awpCvX Tryz.prog 270 5 (.v (.int .u64 n), s') (.v (.int .u64 n)) (.v (.int .u64 n)) s K = K (.v (.int .u8 (IntKind.u8.wrap n))) s := cvi (d := .int .u64) (by kernel_rfl) (by kernel_rfl) n s' s K
theorem ei28 : elemIn Tryz.prog 28 = some (3, 1, 8) := by kernel_rfl
theorem ei32 : elemIn Tryz.prog 32 = some (5, 1, 1) := by kernel_rfl
theorem ei65 : elemIn Tryz.prog 65 = some (155, 2, 48) := by kernel_rfl
theorem es22 : elemSz Tryz.prog 22 = some (26, 1) := by kernel_rfl
theorem es28 : elemSz Tryz.prog 28 = some (3, 1) := by kernel_rfl
theorem es32 : elemSz Tryz.prog 32 = some (5, 1) := by kernel_rfl
theorem es65 : elemSz Tryz.prog 65 = some (155, 2) := by kernel_rfl
theorem fl129 : fieldsAt Tryz.prog 129 = some [(0, 1), (1, 1), (2, 1), (3, 1)] := by kernel_rfl
theorem fl155 : fieldsAt Tryz.prog 155 = some [(0, 1), (1, 1)] := by kernel_rfl
theorem fl217 : fieldsAt Tryz.prog 217 = some [(0, 1), (1, 1)] := by kernel_rfl
theorem fo129_0 : fieldOf Tryz.prog 129 0 = some (0, 126) := by kernel_rfl
theorem fo129_1 : fieldOf Tryz.prog 129 1 = some (1, 124) := by kernel_rfl
theorem fo129_2 : fieldOf Tryz.prog 129 2 = some (2, 127) := by kernel_rfl
theorem fo129_3 : fieldOf Tryz.prog 129 3 = some (3, 30) := by kernel_rfl
theorem fo155_0 : fieldOf Tryz.prog 155 0 = some (0, 32) := by kernel_rfl
theorem fo217_0 : fieldOf Tryz.prog 217 0 = some (0, 32) := by kernel_rfl
theorem fo217_1 : fieldOf Tryz.prog 217 1 = some (1, 4) := by kernel_rfl
theorem mt126 : MapT Tryz.prog 126 9 217 (.string) := ⟨by kernel_rfl, by kernel_rfl⟩
theorem mt127 : MapT Tryz.prog 127 9 32 (.string) := ⟨by kernel_rfl, by kernel_rfl⟩
theorem of3 (c : AV) (cs : List AV) (K : AV → Prop) : ofCells Tryz.prog 3 (c :: cs) K = K (val c) := ofCells_one (by kernel_rfl) c cs K
theorem of4 (c : AV) (cs : List AV) (K : AV → Prop) : ofCells Tryz.prog 4 (c :: cs) K = K (val c) := ofCells_one (by kernel_rfl) c cs K
theorem of5 (c : AV) (cs : List AV) (K : AV → Prop) : ofCells Tryz.prog 5 (c :: cs) K = K (val c) := ofCells_one (by kernel_rfl) c cs K
theorem of24 (c : AV) (cs : List AV) (K : AV → Prop) : ofCells Tryz.prog 24 (c :: cs) K = K (val c) := ofCells_one (by kernel_rfl) c cs K
theorem of26 (c : AV) (cs : List AV) (K : AV → Prop) : ofCells Tryz.prog 26 (c :: cs) K = K (val c) := ofCells_one (by kernel_rfl) c cs K
theorem of30 (c : AV) (cs : List AV) (K : AV → Prop) : ofCells Tryz.prog 30 (c :: cs) K = K (val c) := ofCells_one (by kernel_rfl) c cs K
theorem of32 (c : AV) (cs : List AV) (K : AV → Prop) : ofCells Tryz.prog 32 (c :: cs) K = K (val c) := ofCells_one (by kernel_rfl) c cs K
theorem of124 (c : AV) (cs : List AV) (K : AV → Prop) : ofCells Tryz.prog 124 (c :: cs) K = K (val c) := ofCells_one (by kernel_rfl) c cs K
theorem of126 (c : AV) (cs : List AV) (K : AV → Prop) : ofCells Tryz.prog 126 (c :: cs) K = K (val c) := ofCells_one (by kernel_rfl) c cs K
theorem of127 (c : AV) (cs : List AV) (K : AV → Prop) : ofCells Tryz.prog 127 (c :: cs) K = K (val c) := ofCells_one (by kernel_rfl) c cs K
theorem of155 (cs : List AV) (K : AV → Prop) : ofCells Tryz.prog 155 cs K = (2 ≤ cs.length ∧ K (.agg (cs.take 2))) := ofCells_agg (by kernel_rfl) cs K
theorem of217 (cs : List AV) (K : AV → Prop) : ofCells Tryz.prog 217 cs K = (2 ≤ cs.length ∧ K (.agg (cs.take 2))) := ofCells_agg (by kernel_rfl) cs K
theorem sz3 : szT Tryz.prog 3 = some 1 := by kernel_rfl
theorem sz155 : szT Tryz.prog 155 = some 2 := by kernel_rfl
theorem sz217 : szT Tryz.prog 217 = some 2 := by kernel_rfl
theorem z5 : (Tryz.prog.info? 5).bind (·.zero) = some (.int .u8 0) := by kernel_rfl
theorem z32 : (Tryz.prog.info? 32).bind (·.zero) = some (.slice none 0 0) := by kernel_rfl
theorem z129 : (Tryz.prog.info? 129).bind (·.zero) = some (.agg #[.map none, .pointer none, .map none, .int .i64 0]) := by kernel_rfl
theorem z155 : (Tryz.prog.info? 155).bind (·.zero) = some (.agg #[.slice none 0 0, .slice none 0 0]) := by kernel_rfl
theorem z217 : (Tryz.prog.info? 217).bind (·.zero) = some (.agg #[.slice none 0 0, .bool false]) := by kernel_rfl
theorem zr3 : ((Tryz.prog.info? 3).any fun i => i.zero.isSome) = true := by kernel_rfl
theorem zr5 : ((Tryz.prog.info? 5).any fun i => i.zero.isSome) = true := by kernel_rfl
theorem zr155 : ((Tryz.prog.info? 155).any fun i => i.zero.isSome) = true := by kernel_rfl
theorem al155 (K : AV → Prop) : awpAlloc ((Tryz.prog.info? 155).bind (·.zero)) K = K (.box [.v (.slice none 0 0), .v (.slice none 0 0)]) := alloc_eq z155 rfl rfl K
theorem al217 (K : AV → Prop) : awpAlloc ((Tryz.prog.info? 217).bind (·.zero)) K = K (.box [.v (.slice none 0 0), .v (.bool false)]) := alloc_eq z217 rfl rfl K
theorem bd155 (parts : List (Nat × AV)) (K : AV → Prop) : awpBuild Tryz.prog 155 parts K = bldE [(0, 1), (1, 1)] [.v (.slice none 0 0), .v (.slice none 0 0)] K parts := build_eq fl155 z155 rfl parts K
theorem q3 : type_of% (And.intro (And.intro (And.intro Tryz.underlying22 es22) (And.intro as22 (And.intro of26 cv26_3))) (And.intro (And.intro Tryz.underlying28 (And.intro cv3_5 es32)) (And.intro (fun src => cvX_str (src := src) Tryz.underlying9) (And.intro Tryz.underlying32 Tryz.results3)))) := (And.intro (And.intro (And.intro Tryz.underlying22 es22) (And.intro as22 (And.intro of26 cv26_3))) (And.intro (And.intro Tryz.underlying28 (And.intro cv3_5 es32)) (And.intro (fun src => cvX_str (src := src) Tryz.underlying9) (And.intro Tryz.underlying32 Tryz.results3))))
theorem q12 : type_of% (And.intro Tryz.underlying28 Tryz.results12) := (And.intro Tryz.underlying28 Tryz.results12)
theorem q15 : type_of% Tryz.results15 := Tryz.results15
theorem q16 : type_of% (And.intro Tryz.underlying28 (And.intro es28 Tryz.results16)) := (And.intro Tryz.underlying28 (And.intro es28 Tryz.results16))
theorem q17 : type_of% (And.intro (And.intro Tryz.underlying28 es28) (And.intro as28 (And.intro of3 Tryz.results17))) := (And.intro (And.intro Tryz.underlying28 es28) (And.intro as28 (And.intro of3 Tryz.results17)))
theorem q18 : type_of% (And.intro (And.intro Tryz.underlying28 (And.intro es28 as28)) (And.intro of3 (And.intro sz3 Tryz.results18))) := (And.intro (And.intro Tryz.underlying28 (And.intro es28 as28)) (And.intro of3 (And.intro sz3 Tryz.results18)))
theorem q80 : type_of% (And.intro Tryz.underlying28 (And.intro es28 Tryz.results80)) := (And.intro Tryz.underlying28 (And.intro es28 Tryz.results80))
theorem q81 : type_of% (And.intro (And.intro es28 (fun src => cvX_str (src := src) Tryz.underlying9)) (And.intro Tryz.underlying32 Tryz.results81)) := (And.intro (And.intro es28 (fun src => cvX_str (src := src) Tryz.underlying9)) (And.intro Tryz.underlying32 Tryz.results81))
theorem q82 : type_of% (And.intro es28 Tryz.results82) := (And.intro es28 Tryz.results82)
theorem q83 : type_of% (And.intro (And.intro es28 (fun tx => append_own (tx := tx) ei28)) (And.intro (fun tx => append_nil (tx := tx) ei28) Tryz.results83)) := (And.intro (And.intro es28 (fun tx => append_own (tx := tx) ei28)) (And.intro (fun tx => append_nil (tx := tx) ei28) Tryz.results83))
theorem q85 : type_of% (And.intro (And.intro (And.intro (And.intro es32 Tryz.underlying65) (And.intro es65 as65)) (And.intro (And.intro of155 al155) (And.intro sz155 fo155_0))) (And.intro (And.intro (And.intro of32 Tryz.underlying28) (And.intro es28 as28)) (And.intro (And.intro of3 (fun tx => append_own (tx := tx) ei28)) (And.intro (fun tx => append_nil (tx := tx) ei28) Tryz.results85)))) := (And.intro (And.intro (And.intro (And.intro es32 Tryz.underlying65) (And.intro es65 as65)) (And.intro (And.intro of155 al155) (And.intro sz155 fo155_0))) (And.intro (And.intro (And.intro of32 Tryz.underlying28) (And.intro es28 as28)) (And.intro (And.intro of3 (fun tx => append_own (tx := tx) ei28)) (And.intro (fun tx => append_nil (tx := tx) ei28) Tryz.results85))))
theorem q86 : type_of% Tryz.results86 := Tryz.results86
theorem q87 : type_of% (And.intro Tryz.underlying9 Tryz.results87) := (And.intro Tryz.underlying9 Tryz.results87)
theorem q90 : type_of% Tryz.results90 := Tryz.results90
theorem q104 : type_of% Tryz.results104 := Tryz.results104
theorem q157 : type_of% Tryz.results157 := Tryz.results157
theorem q158 : type_of% Tryz.results158 := Tryz.results158
theorem q160 : type_of% Tryz.results160 := Tryz.results160
theorem q161 : type_of% (And.intro (And.intro Tryz.underlying28 (And.intro es28 as28)) (And.intro of3 (And.intro sz3 Tryz.results161))) := (And.intro (And.intro Tryz.underlying28 (And.intro es28 as28)) (And.intro of3 (And.intro sz3 Tryz.results161)))
theorem q162 : type_of% Tryz.results162 := Tryz.results162
theorem q165 : type_of% Tryz.results165 := Tryz.results165
theorem q166 : type_of% Tryz.results166 := Tryz.results166
theorem q167 : type_of% Tryz.results167 := Tryz.results167
theorem q229 : type_of% (And.intro (And.intro Tryz.underlying28 es28) (And.intro as28 (And.intro of3 Tryz.results229))) := (And.intro (And.intro Tryz.underlying28 es28) (And.intro as28 (And.intro of3 Tryz.results229)))
theorem q232 : type_of% (And.intro (And.intro Tryz.underlying32 es32) (And.intro as32 (And.intro of5 Tryz.results232))) := (And.intro (And.intro Tryz.underlying32 es32) (And.intro as32 (And.intro of5 Tryz.results232)))
end Go.Proofs.Lx
