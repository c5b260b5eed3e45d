/- What the types of this program say: printed. -/
import Derived.Test.YtfhmmgodegmilaaDoorVmJ
import Derived.Test.YtfhmmgodegmilaaDoorProg
import Derived.KernelRfl
set_option linter.unusedSimpArgs false
set_option linter.unusedVariables false
namespace Go.Proofs
open Go.Vm

theorem as22 : arrSz Tryd.prog 22 = none := by kernel_rfl
theorem as26 : arrSz Tryd.prog 26 = some (4, 1) := by kernel_rfl
theorem as59 : arrSz Tryd.prog 59 = none := by kernel_rfl
theorem bt22 : bytesT Tryd.prog 22 = true := by kernel_rfl
theorem cv3_5 (n : Int) (s' s : Slots) (K : AV → Slots → Prop) : awpCvX Tryd.prog 3 5 (.v (.int .i64 n), s') (.v (.int .i64 n)) (.v (.int .i64 n)) s K = K (.v (.int .u8 (IntKind.u8.wrap n))) s := cvi (d := .int .i64) (by kernel_rfl) (by kernel_rfl) n s' s K
theorem cv3_78 (n : Int) (s' s : Slots) (K : AV → Slots → Prop) : awpCvX Tryd.prog 3 78 (.v (.int .i64 n), s') (.v (.int .i64 n)) (.v (.int .i64 n)) s K = K (.v (.int .u64 (IntKind.u64.wrap n))) s := cvi (d := .int .i64) (by kernel_rfl) (by kernel_rfl) n s' s K
theorem cv5_3 (n : Int) (s' s : Slots) (K : AV → Slots → Prop) : awpCvX Tryd.prog 5 3 (.v (.int .u8 n), s') (.v (.int .u8 n)) (.v (.int .u8 n)) s K = K (.v (.int .i64 (IntKind.i64.wrap n))) s := cvi (d := .int .u8) (by kernel_rfl) (by kernel_rfl) n s' s K
theorem cv5_78 (n : Int) (s' s : Slots) (K : AV → Slots → Prop) : awpCvX Tryd.prog 5 78 (.v (.int .u8 n), s') (.v (.int .u8 n)) (.v (.int .u8 n)) s K = K (.v (.int .u64 (IntKind.u64.wrap n))) s := cvi (d := .int .u8) (by kernel_rfl) (by kernel_rfl) n s' s K
theorem cv78_3 (n : Int) (s' s : Slots) (K : AV → Slots → Prop) : awpCvX Tryd.prog 78 3 (.v (.int .u64 n), s') (.v (.int .u64 n)) (.v (.int .u64 n)) s K = K (.v (.int .i64 (IntKind.i64.wrap n))) s := cvi (d := .int .u64) (by kernel_rfl) (by kernel_rfl) n s' s K
theorem cv78_5 (n : Int) (s' s : Slots) (K : AV → Slots → Prop) : awpCvX Tryd.prog 78 5 (.v (.int .u64 n), s') (.v (.int .u64 n)) (.v (.int .u64 n)) s K = K (.v (.int .u8 (IntKind.u8.wrap n))) s := cvi (d := .int .u64) (by kernel_rfl) (by kernel_rfl) n s' s K
theorem ei22 : elemIn Tryd.prog 22 = some (5, 1, 1) := by kernel_rfl
theorem ei59 : elemIn Tryd.prog 59 = some (3, 1, 8) := by kernel_rfl
theorem es22 : elemSz Tryd.prog 22 = some (5, 1) := by kernel_rfl
theorem es59 : elemSz Tryd.prog 59 = some (3, 1) := by kernel_rfl
theorem fl43 : fieldsAt Tryd.prog 43 = some [(0, 1), (1, 1), (2, 1), (3, 1)] := by kernel_rfl
theorem fl45 : fieldsAt Tryd.prog 45 = some [(0, 1), (1, 1)] := by kernel_rfl
theorem fl64 : fieldsAt Tryd.prog 64 = some [(0, 1), (1, 1)] := by kernel_rfl
theorem fo43_0 : fieldOf Tryd.prog 43 0 = some (0, 40) := by kernel_rfl
theorem fo43_1 : fieldOf Tryd.prog 43 1 = some (1, 38) := by kernel_rfl
theorem fo43_2 : fieldOf Tryd.prog 43 2 = some (2, 41) := by kernel_rfl
theorem fo43_3 : fieldOf Tryd.prog 43 3 = some (3, 27) := by kernel_rfl
theorem fo45_0 : fieldOf Tryd.prog 45 0 = some (0, 24) := by kernel_rfl
theorem fo45_1 : fieldOf Tryd.prog 45 1 = some (1, 22) := by kernel_rfl
theorem fo64_0 : fieldOf Tryd.prog 64 0 = some (0, 22) := by kernel_rfl
theorem fo64_1 : fieldOf Tryd.prog 64 1 = some (1, 4) := by kernel_rfl
theorem mt40 : MapT Tryd.prog 40 9 64 (.string) := ⟨by kernel_rfl, by kernel_rfl⟩
theorem mt41 : MapT Tryd.prog 41 9 22 (.string) := ⟨by kernel_rfl, by kernel_rfl⟩
theorem of3 (c : AV) (cs : List AV) (K : AV → Prop) : ofCells Tryd.prog 3 (c :: cs) K = K (val c) := ofCells_one (by kernel_rfl) c cs K
theorem of4 (c : AV) (cs : List AV) (K : AV → Prop) : ofCells Tryd.prog 4 (c :: cs) K = K (val c) := ofCells_one (by kernel_rfl) c cs K
theorem of5 (c : AV) (cs : List AV) (K : AV → Prop) : ofCells Tryd.prog 5 (c :: cs) K = K (val c) := ofCells_one (by kernel_rfl) c cs K
theorem of22 (c : AV) (cs : List AV) (K : AV → Prop) : ofCells Tryd.prog 22 (c :: cs) K = K (val c) := ofCells_one (by kernel_rfl) c cs K
theorem of24 (c : AV) (cs : List AV) (K : AV → Prop) : ofCells Tryd.prog 24 (c :: cs) K = K (val c) := ofCells_one (by kernel_rfl) c cs K
theorem of27 (c : AV) (cs : List AV) (K : AV → Prop) : ofCells Tryd.prog 27 (c :: cs) K = K (val c) := ofCells_one (by kernel_rfl) c cs K
theorem of38 (c : AV) (cs : List AV) (K : AV → Prop) : ofCells Tryd.prog 38 (c :: cs) K = K (val c) := ofCells_one (by kernel_rfl) c cs K
theorem of40 (c : AV) (cs : List AV) (K : AV → Prop) : ofCells Tryd.prog 40 (c :: cs) K = K (val c) := ofCells_one (by kernel_rfl) c cs K
theorem of41 (c : AV) (cs : List AV) (K : AV → Prop) : ofCells Tryd.prog 41 (c :: cs) K = K (val c) := ofCells_one (by kernel_rfl) c cs K
theorem of45 (cs : List AV) (K : AV → Prop) : ofCells Tryd.prog 45 cs K = (2 ≤ cs.length ∧ K (.agg (cs.take 2))) := ofCells_agg (by kernel_rfl) cs K
theorem sz3 : szT Tryd.prog 3 = some 1 := by kernel_rfl
theorem sz45 : szT Tryd.prog 45 = some 2 := by kernel_rfl
theorem sz64 : szT Tryd.prog 64 = some 2 := by kernel_rfl
theorem z3 : (Tryd.prog.info? 3).bind (·.zero) = some (.int .i64 0) := by kernel_rfl
theorem z5 : (Tryd.prog.info? 5).bind (·.zero) = some (.int .u8 0) := by kernel_rfl
theorem z22 : (Tryd.prog.info? 22).bind (·.zero) = some (.slice none 0 0) := by kernel_rfl
theorem z26 : (Tryd.prog.info? 26).bind (·.zero) = some (.agg #[.int .i64 0, .int .i64 0, .int .i64 0, .int .i64 0]) := by kernel_rfl
theorem z43 : (Tryd.prog.info? 43).bind (·.zero) = some (.agg #[.map none, .pointer none, .map none, .int .i64 0]) := by kernel_rfl
theorem z45 : (Tryd.prog.info? 45).bind (·.zero) = some (.agg #[.pointer none, .slice none 0 0]) := by kernel_rfl
theorem z64 : (Tryd.prog.info? 64).bind (·.zero) = some (.agg #[.slice none 0 0, .bool false]) := by kernel_rfl
theorem zr3 : ((Tryd.prog.info? 3).any fun i => i.zero.isSome) = true := by kernel_rfl
theorem zr5 : ((Tryd.prog.info? 5).any fun i => i.zero.isSome) = true := by kernel_rfl

end Go.Proofs
