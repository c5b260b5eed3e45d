/- What the types of this program say. -/
import Derived.Test.YtneohggmipeknabGreatDoorV2
import Derived.Test.YtneohggmipeknabGreatDoorProg
import Derived.KernelRfl
open And renaming intro → zZ
set_option linter.unusedSimpArgs false
set_option linter.unusedVariables false
namespace Go.Proofs.Lx
open Go.Vm
theorem as22 : arrSz Tryz.prog 22 = none := by kernel_rfl
theorem as23 : arrSz Tryz.prog 23 = none := by kernel_rfl
theorem as33 : arrSz Tryz.prog 33 = none := by kernel_rfl
theorem as43 : arrSz Tryz.prog 43 = none := by kernel_rfl
theorem as76 : arrSz Tryz.prog 76 = none := by kernel_rfl
theorem as107 : arrSz Tryz.prog 107 = none := by kernel_rfl
theorem as133 : arrSz Tryz.prog 133 = none := by kernel_rfl
theorem as162 : arrSz Tryz.prog 162 = none := by kernel_rfl
theorem as278 : arrSz Tryz.prog 278 = none := by kernel_rfl
theorem bt107 : bytesT Tryz.prog 107 = true := by kernel_rfl
theorem cv3_5 (n : Int) (s' s : Slots) (K : AV → Slots → Prop) : awpCvX Tryz.prog 3 5 (.v (.int .i64 n), s') (.v (.int .i64 n)) (.v (.int .i64 n)) s K = K (.v (.int .u8 (IntKind.u8.wrap n))) s := cvi (d := .int .i64) (by kernel_rfl) (by kernel_rfl) n s' s K
theorem cv3_274 (n : Int) (s' s : Slots) (K : AV → Slots → Prop) : awpCvX Tryz.prog 3 274 (.v (.int .i64 n), s') (.v (.int .i64 n)) (.v (.int .i64 n)) s K = K (.v (.int .u64 (IntKind.u64.wrap n))) s := cvi (d := .int .i64) (by kernel_rfl) (by kernel_rfl) n s' s K
theorem cv5_3 (n : Int) (s' s : Slots) (K : AV → Slots → Prop) : awpCvX Tryz.prog 5 3 (.v (.int .u8 n), s') (.v (.int .u8 n)) (.v (.int .u8 n)) s K = K (.v (.int .i64 (IntKind.i64.wrap n))) s := cvi (d := .int .u8) (by kernel_rfl) (by kernel_rfl) n s' s K
theorem cv5_274 (n : Int) (s' s : Slots) (K : AV → Slots → Prop) : awpCvX Tryz.prog 5 274 (.v (.int .u8 n), s') (.v (.int .u8 n)) (.v (.int .u8 n)) s K = K (.v (.int .u64 (IntKind.u64.wrap n))) s := cvi (d := .int .u8) (by kernel_rfl) (by kernel_rfl) n s' s K
theorem cv274_3 (n : Int) (s' s : Slots) (K : AV → Slots → Prop) : awpCvX Tryz.prog 274 3 (.v (.int .u64 n), s') (.v (.int .u64 n)) (.v (.int .u64 n)) s K = K (.v (.int .i64 (IntKind.i64.wrap n))) s := cvi (d := .int .u64) (by kernel_rfl) (by kernel_rfl) n s' s K
theorem cv274_5 (n : Int) (s' s : Slots) (K : AV → Slots → Prop) : awpCvX Tryz.prog 274 5 (.v (.int .u64 n), s') (.v (.int .u64 n)) (.v (.int .u64 n)) s K = K (.v (.int .u8 (IntKind.u8.wrap n))) s := cvi (d := .int .u64) (by kernel_rfl) (by kernel_rfl) n s' s K
theorem ei22 : elemIn Tryz.prog 22 = some (28, 12, 96) := by kernel_rfl
theorem ei33 : elemIn Tryz.prog 33 = some (45, 4, 32) := by kernel_rfl
theorem ei43 : elemIn Tryz.prog 43 = some (47, 4, 32) := by kernel_rfl
theorem ei76 : elemIn Tryz.prog 76 = some (124, 2, 48) := by kernel_rfl
theorem ei77 : elemIn Tryz.prog 77 = some (107, 1, 24) := by kernel_rfl
theorem ei107 : elemIn Tryz.prog 107 = some (5, 1, 1) := by kernel_rfl
theorem ei133 : elemIn Tryz.prog 133 = some (9, 1, 16) := by kernel_rfl
theorem ei162 : elemIn Tryz.prog 162 = some (3, 1, 8) := by kernel_rfl
theorem es22 : elemSz Tryz.prog 22 = some (28, 12) := by kernel_rfl
theorem es23 : elemSz Tryz.prog 23 = some (35, 3) := by kernel_rfl
theorem es33 : elemSz Tryz.prog 33 = some (45, 4) := by kernel_rfl
theorem es43 : elemSz Tryz.prog 43 = some (47, 4) := by kernel_rfl
theorem es76 : elemSz Tryz.prog 76 = some (124, 2) := by kernel_rfl
theorem es77 : elemSz Tryz.prog 77 = some (107, 1) := by kernel_rfl
theorem es107 : elemSz Tryz.prog 107 = some (5, 1) := by kernel_rfl
theorem es133 : elemSz Tryz.prog 133 = some (9, 1) := by kernel_rfl
theorem es162 : elemSz Tryz.prog 162 = some (3, 1) := by kernel_rfl
theorem es278 : elemSz Tryz.prog 278 = some (33, 1) := by kernel_rfl
theorem fd45 : flatDs Tryz.prog 45 = some [.int .i64, .int .i64, .int .i64, .int .i64] := by kernel_rfl
theorem fl28 : fieldsAt Tryz.prog 28 = some [(0, 1), (1, 1), (2, 1), (3, 1), (4, 1), (5, 1), (6, 1), (7, 1), (8, 1), (9, 1), (10, 1), (11, 1)] := by kernel_rfl
theorem fl45 : fieldsAt Tryz.prog 45 = some [(0, 1), (1, 1), (2, 1), (3, 1)] := by kernel_rfl
theorem fl47 : fieldsAt Tryz.prog 47 = some [(0, 1), (1, 1), (2, 1), (3, 1)] := by kernel_rfl
theorem fl63 : fieldsAt Tryz.prog 63 = some [(0, 1), (1, 1), (2, 1)] := by kernel_rfl
theorem fl75 : fieldsAt Tryz.prog 75 = some [(0, 1), (1, 1), (2, 1), (3, 1)] := by kernel_rfl
theorem fl89 : fieldsAt Tryz.prog 89 = some [(0, 1), (1, 1), (2, 1)] := by kernel_rfl
theorem fl92 : fieldsAt Tryz.prog 92 = some [(0, 1), (1, 1), (2, 1), (3, 1), (4, 1)] := by kernel_rfl
theorem fl101 : fieldsAt Tryz.prog 101 = some [(0, 1), (1, 1), (2, 1), (3, 1), (4, 1), (5, 1)] := by kernel_rfl
theorem fl105 : fieldsAt Tryz.prog 105 = some [(0, 1), (1, 1)] := by kernel_rfl
theorem fl109 : fieldsAt Tryz.prog 109 = some [(0, 1), (1, 1)] := by kernel_rfl
theorem fl114 : fieldsAt Tryz.prog 114 = some [(0, 1)] := by kernel_rfl
theorem fl116 : fieldsAt Tryz.prog 116 = some [(0, 1), (1, 1), (2, 1)] := by kernel_rfl
theorem fl118 : fieldsAt Tryz.prog 118 = some [(0, 1), (1, 1)] := by kernel_rfl
theorem fl124 : fieldsAt Tryz.prog 124 = some [(0, 1), (1, 1)] := by kernel_rfl
theorem fl136 : fieldsAt Tryz.prog 136 = some [(0, 1), (1, 1)] := by kernel_rfl
theorem fl147 : fieldsAt Tryz.prog 147 = some [(0, 1)] := by kernel_rfl
theorem fl174 : fieldsAt Tryz.prog 174 = some [(0, 1), (1, 1), (2, 1)] := by kernel_rfl
theorem fl186 : fieldsAt Tryz.prog 186 = some [(0, 1), (1, 1), (2, 1)] := by kernel_rfl
theorem fl189 : fieldsAt Tryz.prog 189 = some [(0, 1)] := by kernel_rfl
theorem fl206 : fieldsAt Tryz.prog 206 = some [(0, 1), (1, 1)] := by kernel_rfl
theorem fo28_0 : fieldOf Tryz.prog 28 0 = some (0, 3) := by kernel_rfl
theorem fo28_1 : fieldOf Tryz.prog 28 1 = some (1, 3) := by kernel_rfl
theorem fo28_2 : fieldOf Tryz.prog 28 2 = some (2, 3) := by kernel_rfl
theorem fo28_3 : fieldOf Tryz.prog 28 3 = some (3, 3) := by kernel_rfl
theorem fo28_4 : fieldOf Tryz.prog 28 4 = some (4, 3) := by kernel_rfl
theorem fo28_5 : fieldOf Tryz.prog 28 5 = some (5, 4) := by kernel_rfl
theorem fo28_6 : fieldOf Tryz.prog 28 6 = some (6, 3) := by kernel_rfl
theorem fo28_7 : fieldOf Tryz.prog 28 7 = some (7, 3) := by kernel_rfl
theorem fo28_8 : fieldOf Tryz.prog 28 8 = some (8, 3) := by kernel_rfl
theorem fo28_9 : fieldOf Tryz.prog 28 9 = some (9, 3) := by kernel_rfl
theorem fo28_10 : fieldOf Tryz.prog 28 10 = some (10, 3) := by kernel_rfl
theorem fo28_11 : fieldOf Tryz.prog 28 11 = some (11, 3) := by kernel_rfl
theorem fo35_0 : fieldOf Tryz.prog 35 0 = some (0, 3) := by kernel_rfl
theorem fo35_1 : fieldOf Tryz.prog 35 1 = some (1, 3) := by kernel_rfl
theorem fo35_2 : fieldOf Tryz.prog 35 2 = some (2, 33) := by kernel_rfl
theorem fo45_0 : fieldOf Tryz.prog 45 0 = some (0, 3) := by kernel_rfl
theorem fo45_1 : fieldOf Tryz.prog 45 1 = some (1, 3) := by kernel_rfl
theorem fo45_2 : fieldOf Tryz.prog 45 2 = some (2, 3) := by kernel_rfl
theorem fo45_3 : fieldOf Tryz.prog 45 3 = some (3, 3) := by kernel_rfl
theorem fo47_0 : fieldOf Tryz.prog 47 0 = some (0, 3) := by kernel_rfl
theorem fo47_1 : fieldOf Tryz.prog 47 1 = some (1, 3) := by kernel_rfl
theorem fo47_2 : fieldOf Tryz.prog 47 2 = some (2, 3) := by kernel_rfl
theorem fo47_3 : fieldOf Tryz.prog 47 3 = some (3, 3) := by kernel_rfl
theorem fo63_0 : fieldOf Tryz.prog 63 0 = some (0, 29) := by kernel_rfl
theorem fo63_1 : fieldOf Tryz.prog 63 1 = some (1, 3) := by kernel_rfl
theorem fo63_2 : fieldOf Tryz.prog 63 2 = some (2, 3) := by kernel_rfl
theorem fo75_0 : fieldOf Tryz.prog 75 0 = some (0, 71) := by kernel_rfl
theorem fo75_1 : fieldOf Tryz.prog 75 1 = some (1, 72) := by kernel_rfl
theorem fo75_2 : fieldOf Tryz.prog 75 2 = some (2, 73) := by kernel_rfl
theorem fo75_3 : fieldOf Tryz.prog 75 3 = some (3, 36) := by kernel_rfl
theorem fo89_0 : fieldOf Tryz.prog 89 0 = some (0, 29) := by kernel_rfl
theorem fo89_1 : fieldOf Tryz.prog 89 1 = some (1, 3) := by kernel_rfl
theorem fo89_2 : fieldOf Tryz.prog 89 2 = some (2, 3) := by kernel_rfl
theorem fo92_0 : fieldOf Tryz.prog 92 0 = some (0, 3) := by kernel_rfl
theorem fo92_1 : fieldOf Tryz.prog 92 1 = some (1, 3) := by kernel_rfl
theorem fo92_2 : fieldOf Tryz.prog 92 2 = some (2, 3) := by kernel_rfl
theorem fo92_3 : fieldOf Tryz.prog 92 3 = some (3, 3) := by kernel_rfl
theorem fo92_4 : fieldOf Tryz.prog 92 4 = some (4, 3) := by kernel_rfl
theorem fo101_0 : fieldOf Tryz.prog 101 0 = some (0, 3) := by kernel_rfl
theorem fo101_1 : fieldOf Tryz.prog 101 1 = some (1, 3) := by kernel_rfl
theorem fo101_2 : fieldOf Tryz.prog 101 2 = some (2, 3) := by kernel_rfl
theorem fo101_3 : fieldOf Tryz.prog 101 3 = some (3, 3) := by kernel_rfl
theorem fo101_4 : fieldOf Tryz.prog 101 4 = some (4, 3) := by kernel_rfl
theorem fo101_5 : fieldOf Tryz.prog 101 5 = some (5, 3) := by kernel_rfl
theorem fo105_0 : fieldOf Tryz.prog 105 0 = some (0, 29) := by kernel_rfl
theorem fo105_1 : fieldOf Tryz.prog 105 1 = some (1, 3) := by kernel_rfl
theorem fo109_0 : fieldOf Tryz.prog 109 0 = some (0, 29) := by kernel_rfl
theorem fo109_1 : fieldOf Tryz.prog 109 1 = some (1, 107) := by kernel_rfl
theorem fo114_0 : fieldOf Tryz.prog 114 0 = some (0, 76) := by kernel_rfl
theorem fo116_0 : fieldOf Tryz.prog 116 0 = some (0, 112) := by kernel_rfl
theorem fo116_1 : fieldOf Tryz.prog 116 1 = some (1, 112) := by kernel_rfl
theorem fo116_2 : fieldOf Tryz.prog 116 2 = some (2, 112) := by kernel_rfl
theorem fo118_0 : fieldOf Tryz.prog 118 0 = some (0, 29) := by kernel_rfl
theorem fo118_1 : fieldOf Tryz.prog 118 1 = some (1, 3) := by kernel_rfl
theorem fo124_0 : fieldOf Tryz.prog 124 0 = some (0, 107) := by kernel_rfl
theorem fo124_1 : fieldOf Tryz.prog 124 1 = some (1, 107) := by kernel_rfl
theorem fo136_0 : fieldOf Tryz.prog 136 0 = some (0, 107) := by kernel_rfl
theorem fo136_1 : fieldOf Tryz.prog 136 1 = some (1, 4) := by kernel_rfl
theorem fo147_0 : fieldOf Tryz.prog 147 0 = some (0, 29) := by kernel_rfl
theorem fo174_0 : fieldOf Tryz.prog 174 0 = some (0, 5) := by kernel_rfl
theorem fo174_1 : fieldOf Tryz.prog 174 1 = some (1, 3) := by kernel_rfl
theorem fo174_2 : fieldOf Tryz.prog 174 2 = some (2, 3) := by kernel_rfl
theorem fo186_0 : fieldOf Tryz.prog 186 0 = some (0, 3) := by kernel_rfl
theorem fo186_1 : fieldOf Tryz.prog 186 1 = some (1, 3) := by kernel_rfl
theorem fo186_2 : fieldOf Tryz.prog 186 2 = some (2, 3) := by kernel_rfl
theorem fo189_0 : fieldOf Tryz.prog 189 0 = some (0, 29) := by kernel_rfl
theorem fo206_0 : fieldOf Tryz.prog 206 0 = some (0, 29) := by kernel_rfl
theorem fo206_1 : fieldOf Tryz.prog 206 1 = some (1, 107) := by kernel_rfl
theorem mt71 : MapT Tryz.prog 71 9 136 (.string) := ⟨by kernel_rfl, by kernel_rfl⟩
theorem mt73 : MapT Tryz.prog 73 9 107 (.string) := ⟨by kernel_rfl, by kernel_rfl⟩
theorem mt330 : MapT Tryz.prog 330 3 3 (.int .i64) := ⟨by kernel_rfl, by kernel_rfl⟩
theorem of3 (c : AV) (cs : List AV) (K : AV → Prop) : ofCells Tryz.prog 3 (c :: cs) K = K (val c) := ofCells_one (by kernel_rfl) c cs K
theorem of4 (c : AV) (cs : List AV) (K : AV → Prop) : ofCells Tryz.prog 4 (c :: cs) K = K (val c) := ofCells_one (by kernel_rfl) c cs K
theorem of5 (c : AV) (cs : List AV) (K : AV → Prop) : ofCells Tryz.prog 5 (c :: cs) K = K (val c) := ofCells_one (by kernel_rfl) c cs K
theorem of9 (c : AV) (cs : List AV) (K : AV → Prop) : ofCells Tryz.prog 9 (c :: cs) K = K (val c) := ofCells_one (by kernel_rfl) c cs K
theorem of28 (cs : List AV) (K : AV → Prop) : ofCells Tryz.prog 28 cs K = (12 ≤ cs.length ∧ K (.agg (cs.take 12))) := ofCells_agg (by kernel_rfl) cs K
theorem of29 (c : AV) (cs : List AV) (K : AV → Prop) : ofCells Tryz.prog 29 (c :: cs) K = K (val c) := ofCells_one (by kernel_rfl) c cs K
theorem of33 (c : AV) (cs : List AV) (K : AV → Prop) : ofCells Tryz.prog 33 (c :: cs) K = K (val c) := ofCells_one (by kernel_rfl) c cs K
theorem of35 (cs : List AV) (K : AV → Prop) : ofCells Tryz.prog 35 cs K = (3 ≤ cs.length ∧ K (.agg (cs.take 3))) := ofCells_agg (by kernel_rfl) cs K
theorem of36 (c : AV) (cs : List AV) (K : AV → Prop) : ofCells Tryz.prog 36 (c :: cs) K = K (val c) := ofCells_one (by kernel_rfl) c cs K
theorem of45 (cs : List AV) (K : AV → Prop) : ofCells Tryz.prog 45 cs K = (4 ≤ cs.length ∧ K (.agg (cs.take 4))) := ofCells_agg (by kernel_rfl) cs K
theorem of47 (cs : List AV) (K : AV → Prop) : ofCells Tryz.prog 47 cs K = (4 ≤ cs.length ∧ K (.agg (cs.take 4))) := ofCells_agg (by kernel_rfl) cs K
theorem of63 (cs : List AV) (K : AV → Prop) : ofCells Tryz.prog 63 cs K = (3 ≤ cs.length ∧ K (.agg (cs.take 3))) := ofCells_agg (by kernel_rfl) cs K
theorem of71 (c : AV) (cs : List AV) (K : AV → Prop) : ofCells Tryz.prog 71 (c :: cs) K = K (val c) := ofCells_one (by kernel_rfl) c cs K
theorem of72 (c : AV) (cs : List AV) (K : AV → Prop) : ofCells Tryz.prog 72 (c :: cs) K = K (val c) := ofCells_one (by kernel_rfl) c cs K
theorem of73 (c : AV) (cs : List AV) (K : AV → Prop) : ofCells Tryz.prog 73 (c :: cs) K = K (val c) := ofCells_one (by kernel_rfl) c cs K
theorem of76 (c : AV) (cs : List AV) (K : AV → Prop) : ofCells Tryz.prog 76 (c :: cs) K = K (val c) := ofCells_one (by kernel_rfl) c cs K
theorem of89 (cs : List AV) (K : AV → Prop) : ofCells Tryz.prog 89 cs K = (3 ≤ cs.length ∧ K (.agg (cs.take 3))) := ofCells_agg (by kernel_rfl) cs K
theorem of92 (cs : List AV) (K : AV → Prop) : ofCells Tryz.prog 92 cs K = (5 ≤ cs.length ∧ K (.agg (cs.take 5))) := ofCells_agg (by kernel_rfl) cs K
theorem of101 (cs : List AV) (K : AV → Prop) : ofCells Tryz.prog 101 cs K = (6 ≤ cs.length ∧ K (.agg (cs.take 6))) := ofCells_agg (by kernel_rfl) cs K
theorem of105 (cs : List AV) (K : AV → Prop) : ofCells Tryz.prog 105 cs K = (2 ≤ cs.length ∧ K (.agg (cs.take 2))) := ofCells_agg (by kernel_rfl) cs K
theorem of107 (c : AV) (cs : List AV) (K : AV → Prop) : ofCells Tryz.prog 107 (c :: cs) K = K (val c) := ofCells_one (by kernel_rfl) c cs K
theorem of109 (cs : List AV) (K : AV → Prop) : ofCells Tryz.prog 109 cs K = (2 ≤ cs.length ∧ K (.agg (cs.take 2))) := ofCells_agg (by kernel_rfl) cs K
theorem of112 (c : AV) (cs : List AV) (K : AV → Prop) : ofCells Tryz.prog 112 (c :: cs) K = K (val c) := ofCells_one (by kernel_rfl) c cs K
theorem of118 (cs : List AV) (K : AV → Prop) : ofCells Tryz.prog 118 cs K = (2 ≤ cs.length ∧ K (.agg (cs.take 2))) := ofCells_agg (by kernel_rfl) cs K
theorem of124 (cs : List AV) (K : AV → Prop) : ofCells Tryz.prog 124 cs K = (2 ≤ cs.length ∧ K (.agg (cs.take 2))) := ofCells_agg (by kernel_rfl) cs K
theorem of136 (cs : List AV) (K : AV → Prop) : ofCells Tryz.prog 136 cs K = (2 ≤ cs.length ∧ K (.agg (cs.take 2))) := ofCells_agg (by kernel_rfl) cs K
theorem of147 (cs : List AV) (K : AV → Prop) : ofCells Tryz.prog 147 cs K = (1 ≤ cs.length ∧ K (.agg (cs.take 1))) := ofCells_agg (by kernel_rfl) cs K
theorem of174 (cs : List AV) (K : AV → Prop) : ofCells Tryz.prog 174 cs K = (3 ≤ cs.length ∧ K (.agg (cs.take 3))) := ofCells_agg (by kernel_rfl) cs K
theorem of186 (cs : List AV) (K : AV → Prop) : ofCells Tryz.prog 186 cs K = (3 ≤ cs.length ∧ K (.agg (cs.take 3))) := ofCells_agg (by kernel_rfl) cs K
theorem of189 (cs : List AV) (K : AV → Prop) : ofCells Tryz.prog 189 cs K = (1 ≤ cs.length ∧ K (.agg (cs.take 1))) := ofCells_agg (by kernel_rfl) cs K
theorem of206 (cs : List AV) (K : AV → Prop) : ofCells Tryz.prog 206 cs K = (2 ≤ cs.length ∧ K (.agg (cs.take 2))) := ofCells_agg (by kernel_rfl) cs K
theorem sz3 : szT Tryz.prog 3 = some 1 := by kernel_rfl
theorem sz28 : szT Tryz.prog 28 = some 12 := by kernel_rfl
theorem sz35 : szT Tryz.prog 35 = some 3 := by kernel_rfl
theorem sz36 : szT Tryz.prog 36 = some 1 := by kernel_rfl
theorem sz45 : szT Tryz.prog 45 = some 4 := by kernel_rfl
theorem sz47 : szT Tryz.prog 47 = some 4 := by kernel_rfl
theorem sz63 : szT Tryz.prog 63 = some 3 := by kernel_rfl
theorem sz76 : szT Tryz.prog 76 = some 1 := by kernel_rfl
theorem sz89 : szT Tryz.prog 89 = some 3 := by kernel_rfl
theorem sz92 : szT Tryz.prog 92 = some 5 := by kernel_rfl
theorem sz101 : szT Tryz.prog 101 = some 6 := by kernel_rfl
theorem sz105 : szT Tryz.prog 105 = some 2 := by kernel_rfl
theorem sz109 : szT Tryz.prog 109 = some 2 := by kernel_rfl
theorem sz112 : szT Tryz.prog 112 = some 1 := by kernel_rfl
theorem sz118 : szT Tryz.prog 118 = some 2 := by kernel_rfl
theorem sz124 : szT Tryz.prog 124 = some 2 := by kernel_rfl
theorem sz136 : szT Tryz.prog 136 = some 2 := by kernel_rfl
theorem sz147 : szT Tryz.prog 147 = some 1 := by kernel_rfl
theorem sz174 : szT Tryz.prog 174 = some 3 := by kernel_rfl
theorem sz186 : szT Tryz.prog 186 = some 3 := by kernel_rfl
theorem sz206 : szT Tryz.prog 206 = some 2 := by kernel_rfl
theorem z3 : (Tryz.prog.info? 3).bind (·.zero) = some (.int .i64 0) := by kernel_rfl
theorem z5 : (Tryz.prog.info? 5).bind (·.zero) = some (.int .u8 0) := by kernel_rfl
theorem z28 : (Tryz.prog.info? 28).bind (·.zero) = some (.agg #[.int .i64 0, .int .i64 0, .int .i64 0, .int .i64 0, .int .i64 0, .bool false, .int .i64 0, .int .i64 0, .int .i64 0, .int .i64 0, .int .i64 0, .int .i64 0]) := by kernel_rfl
theorem z35 : (Tryz.prog.info? 35).bind (·.zero) = some (.agg #[.int .i64 0, .int .i64 0, .slice none 0 0]) := by kernel_rfl
theorem z45 : (Tryz.prog.info? 45).bind (·.zero) = some (.agg #[.int .i64 0, .int .i64 0, .int .i64 0, .int .i64 0]) := by kernel_rfl
theorem z47 : (Tryz.prog.info? 47).bind (·.zero) = some (.agg #[.int .i64 0, .int .i64 0, .int .i64 0, .int .i64 0]) := by kernel_rfl
theorem z63 : (Tryz.prog.info? 63).bind (·.zero) = some (.agg #[.pointer none, .int .i64 0, .int .i64 0]) := by kernel_rfl
theorem z75 : (Tryz.prog.info? 75).bind (·.zero) = some (.agg #[.map none, .pointer none, .map none, .int .i64 0]) := by kernel_rfl
theorem z89 : (Tryz.prog.info? 89).bind (·.zero) = some (.agg #[.pointer none, .int .i64 0, .int .i64 0]) := by kernel_rfl
theorem z92 : (Tryz.prog.info? 92).bind (·.zero) = some (.agg #[.int .i64 0, .int .i64 0, .int .i64 0, .int .i64 0, .int .i64 0]) := by kernel_rfl
theorem z101 : (Tryz.prog.info? 101).bind (·.zero) = some (.agg #[.int .i64 0, .int .i64 0, .int .i64 0, .int .i64 0, .int .i64 0, .int .i64 0]) := by kernel_rfl
theorem z105 : (Tryz.prog.info? 105).bind (·.zero) = some (.agg #[.pointer none, .int .i64 0]) := by kernel_rfl
theorem z107 : (Tryz.prog.info? 107).bind (·.zero) = some (.slice none 0 0) := by kernel_rfl
theorem z109 : (Tryz.prog.info? 109).bind (·.zero) = some (.agg #[.pointer none, .slice none 0 0]) := by kernel_rfl
theorem z114 : (Tryz.prog.info? 114).bind (·.zero) = some (.agg #[.slice none 0 0]) := by kernel_rfl
theorem z116 : (Tryz.prog.info? 116).bind (·.zero) = some (.agg #[.pointer none, .pointer none, .pointer none]) := by kernel_rfl
theorem z118 : (Tryz.prog.info? 118).bind (·.zero) = some (.agg #[.pointer none, .int .i64 0]) := by kernel_rfl
theorem z124 : (Tryz.prog.info? 124).bind (·.zero) = some (.agg #[.slice none 0 0, .slice none 0 0]) := by kernel_rfl
theorem z136 : (Tryz.prog.info? 136).bind (·.zero) = some (.agg #[.slice none 0 0, .bool false]) := by kernel_rfl
theorem z147 : (Tryz.prog.info? 147).bind (·.zero) = some (.agg #[.pointer none]) := by kernel_rfl
theorem z174 : (Tryz.prog.info? 174).bind (·.zero) = some (.agg #[.int .u8 0, .int .i64 0, .int .i64 0]) := by kernel_rfl
theorem z186 : (Tryz.prog.info? 186).bind (·.zero) = some (.agg #[.int .i64 0, .int .i64 0, .int .i64 0]) := by kernel_rfl
theorem z189 : (Tryz.prog.info? 189).bind (·.zero) = some (.agg #[.pointer none]) := by kernel_rfl
theorem z206 : (Tryz.prog.info? 206).bind (·.zero) = some (.agg #[.pointer none, .slice none 0 0]) := by kernel_rfl
theorem zr3 : ((Tryz.prog.info? 3).any fun i => i.zero.isSome) = true := by kernel_rfl
theorem zr5 : ((Tryz.prog.info? 5).any fun i => i.zero.isSome) = true := by kernel_rfl
theorem zr9 : ((Tryz.prog.info? 9).any fun i => i.zero.isSome) = true := by kernel_rfl
theorem zr28 : ((Tryz.prog.info? 28).any fun i => i.zero.isSome) = true := by kernel_rfl
theorem zr33 : ((Tryz.prog.info? 33).any fun i => i.zero.isSome) = true := by kernel_rfl
theorem zr45 : ((Tryz.prog.info? 45).any fun i => i.zero.isSome) = true := by kernel_rfl
theorem zr47 : ((Tryz.prog.info? 47).any fun i => i.zero.isSome) = true := by kernel_rfl
theorem zr107 : ((Tryz.prog.info? 107).any fun i => i.zero.isSome) = true := by kernel_rfl
theorem zr124 : ((Tryz.prog.info? 124).any fun i => i.zero.isSome) = true := by kernel_rfl
theorem al28 (K : AV → Prop) : awpAlloc ((Tryz.prog.info? 28).bind (·.zero)) K = K (.box [.v (.int .i64 0), .v (.int .i64 0), .v (.int .i64 0), .v (.int .i64 0), .v (.int .i64 0), .v (.bool false), .v (.int .i64 0), .v (.int .i64 0), .v (.int .i64 0), .v (.int .i64 0), .v (.int .i64 0), .v (.int .i64 0)]) := alloc_eq z28 rfl rfl K
theorem al35 (K : AV → Prop) : awpAlloc ((Tryz.prog.info? 35).bind (·.zero)) K = K (.box [.v (.int .i64 0), .v (.int .i64 0), .v (.slice none 0 0)]) := alloc_eq z35 rfl rfl K
theorem al45 (K : AV → Prop) : awpAlloc ((Tryz.prog.info? 45).bind (·.zero)) K = K (.box [.v (.int .i64 0), .v (.int .i64 0), .v (.int .i64 0), .v (.int .i64 0)]) := alloc_eq z45 rfl rfl K
theorem al47 (K : AV → Prop) : awpAlloc ((Tryz.prog.info? 47).bind (·.zero)) K = K (.box [.v (.int .i64 0), .v (.int .i64 0), .v (.int .i64 0), .v (.int .i64 0)]) := alloc_eq z47 rfl rfl K
theorem al63 (K : AV → Prop) : awpAlloc ((Tryz.prog.info? 63).bind (·.zero)) K = K (.box [.v (.pointer none), .v (.int .i64 0), .v (.int .i64 0)]) := alloc_eq z63 rfl rfl K
theorem al89 (K : AV → Prop) : awpAlloc ((Tryz.prog.info? 89).bind (·.zero)) K = K (.box [.v (.pointer none), .v (.int .i64 0), .v (.int .i64 0)]) := alloc_eq z89 rfl rfl K
theorem al92 (K : AV → Prop) : awpAlloc ((Tryz.prog.info? 92).bind (·.zero)) K = K (.box [.v (.int .i64 0), .v (.int .i64 0), .v (.int .i64 0), .v (.int .i64 0), .v (.int .i64 0)]) := alloc_eq z92 rfl rfl K
theorem al101 (K : AV → Prop) : awpAlloc ((Tryz.prog.info? 101).bind (·.zero)) K = K (.box [.v (.int .i64 0), .v (.int .i64 0), .v (.int .i64 0), .v (.int .i64 0), .v (.int .i64 0), .v (.int .i64 0)]) := alloc_eq z101 rfl rfl K
theorem al105 (K : AV → Prop) : awpAlloc ((Tryz.prog.info? 105).bind (·.zero)) K = K (.box [.v (.pointer none), .v (.int .i64 0)]) := alloc_eq z105 rfl rfl K
theorem al109 (K : AV → Prop) : awpAlloc ((Tryz.prog.info? 109).bind (·.zero)) K = K (.box [.v (.pointer none), .v (.slice none 0 0)]) := alloc_eq z109 rfl rfl K
theorem al118 (K : AV → Prop) : awpAlloc ((Tryz.prog.info? 118).bind (·.zero)) K = K (.box [.v (.pointer none), .v (.int .i64 0)]) := alloc_eq z118 rfl rfl K
theorem al124 (K : AV → Prop) : awpAlloc ((Tryz.prog.info? 124).bind (·.zero)) K = K (.box [.v (.slice none 0 0), .v (.slice none 0 0)]) := alloc_eq z124 rfl rfl K
theorem al136 (K : AV → Prop) : awpAlloc ((Tryz.prog.info? 136).bind (·.zero)) K = K (.box [.v (.slice none 0 0), .v (.bool false)]) := alloc_eq z136 rfl rfl K
theorem al147 (K : AV → Prop) : awpAlloc ((Tryz.prog.info? 147).bind (·.zero)) K = K (.box [.v (.pointer none)]) := alloc_eq z147 rfl rfl K
theorem al174 (K : AV → Prop) : awpAlloc ((Tryz.prog.info? 174).bind (·.zero)) K = K (.box [.v (.int .u8 0), .v (.int .i64 0), .v (.int .i64 0)]) := alloc_eq z174 rfl rfl K
theorem al186 (K : AV → Prop) : awpAlloc ((Tryz.prog.info? 186).bind (·.zero)) K = K (.box [.v (.int .i64 0), .v (.int .i64 0), .v (.int .i64 0)]) := alloc_eq z186 rfl rfl K
theorem bd28 (parts : List (Nat × AV)) (K : AV → Prop) : awpBuild Tryz.prog 28 parts K = bldE [(0, 1), (1, 1), (2, 1), (3, 1), (4, 1), (5, 1), (6, 1), (7, 1), (8, 1), (9, 1), (10, 1), (11, 1)] [.v (.int .i64 0), .v (.int .i64 0), .v (.int .i64 0), .v (.int .i64 0), .v (.int .i64 0), .v (.bool false), .v (.int .i64 0), .v (.int .i64 0), .v (.int .i64 0), .v (.int .i64 0), .v (.int .i64 0), .v (.int .i64 0)] K parts := build_eq fl28 z28 rfl parts K
theorem bd45 (parts : List (Nat × AV)) (K : AV → Prop) : awpBuild Tryz.prog 45 parts K = bldE [(0, 1), (1, 1), (2, 1), (3, 1)] [.v (.int .i64 0), .v (.int .i64 0), .v (.int .i64 0), .v (.int .i64 0)] K parts := build_eq fl45 z45 rfl parts K
theorem bd47 (parts : List (Nat × AV)) (K : AV → Prop) : awpBuild Tryz.prog 47 parts K = bldE [(0, 1), (1, 1), (2, 1), (3, 1)] [.v (.int .i64 0), .v (.int .i64 0), .v (.int .i64 0), .v (.int .i64 0)] K parts := build_eq fl47 z47 rfl parts K
theorem bd63 (parts : List (Nat × AV)) (K : AV → Prop) : awpBuild Tryz.prog 63 parts K = bldE [(0, 1), (1, 1), (2, 1)] [.v (.pointer none), .v (.int .i64 0), .v (.int .i64 0)] K parts := build_eq fl63 z63 rfl parts K
theorem bd89 (parts : List (Nat × AV)) (K : AV → Prop) : awpBuild Tryz.prog 89 parts K = bldE [(0, 1), (1, 1), (2, 1)] [.v (.pointer none), .v (.int .i64 0), .v (.int .i64 0)] K parts := build_eq fl89 z89 rfl parts K
theorem bd92 (parts : List (Nat × AV)) (K : AV → Prop) : awpBuild Tryz.prog 92 parts K = bldE [(0, 1), (1, 1), (2, 1), (3, 1), (4, 1)] [.v (.int .i64 0), .v (.int .i64 0), .v (.int .i64 0), .v (.int .i64 0), .v (.int .i64 0)] K parts := build_eq fl92 z92 rfl parts K
theorem bd101 (parts : List (Nat × AV)) (K : AV → Prop) : awpBuild Tryz.prog 101 parts K = bldE [(0, 1), (1, 1), (2, 1), (3, 1), (4, 1), (5, 1)] [.v (.int .i64 0), .v (.int .i64 0), .v (.int .i64 0), .v (.int .i64 0), .v (.int .i64 0), .v (.int .i64 0)] K parts := build_eq fl101 z101 rfl parts K
theorem bd105 (parts : List (Nat × AV)) (K : AV → Prop) : awpBuild Tryz.prog 105 parts K = bldE [(0, 1), (1, 1)] [.v (.pointer none), .v (.int .i64 0)] K parts := build_eq fl105 z105 rfl parts K
theorem bd109 (parts : List (Nat × AV)) (K : AV → Prop) : awpBuild Tryz.prog 109 parts K = bldE [(0, 1), (1, 1)] [.v (.pointer none), .v (.slice none 0 0)] K parts := build_eq fl109 z109 rfl parts K
theorem bd114 (parts : List (Nat × AV)) (K : AV → Prop) : awpBuild Tryz.prog 114 parts K = bldE [(0, 1)] [.v (.slice none 0 0)] K parts := build_eq fl114 z114 rfl parts K
theorem bd116 (parts : List (Nat × AV)) (K : AV → Prop) : awpBuild Tryz.prog 116 parts K = bldE [(0, 1), (1, 1), (2, 1)] [.v (.pointer none), .v (.pointer none), .v (.pointer none)] K parts := build_eq fl116 z116 rfl parts K
theorem bd118 (parts : List (Nat × AV)) (K : AV → Prop) : awpBuild Tryz.prog 118 parts K = bldE [(0, 1), (1, 1)] [.v (.pointer none), .v (.int .i64 0)] K parts := build_eq fl118 z118 rfl parts K
theorem bd124 (parts : List (Nat × AV)) (K : AV → Prop) : awpBuild Tryz.prog 124 parts K = bldE [(0, 1), (1, 1)] [.v (.slice none 0 0), .v (.slice none 0 0)] K parts := build_eq fl124 z124 rfl parts K
theorem bd136 (parts : List (Nat × AV)) (K : AV → Prop) : awpBuild Tryz.prog 136 parts K = bldE [(0, 1), (1, 1)] [.v (.slice none 0 0), .v (.bool false)] K parts := build_eq fl136 z136 rfl parts K
theorem bd147 (parts : List (Nat × AV)) (K : AV → Prop) : awpBuild Tryz.prog 147 parts K = bldE [(0, 1)] [.v (.pointer none)] K parts := build_eq fl147 z147 rfl parts K
theorem bd174 (parts : List (Nat × AV)) (K : AV → Prop) : awpBuild Tryz.prog 174 parts K = bldE [(0, 1), (1, 1), (2, 1)] [.v (.int .u8 0), .v (.int .i64 0), .v (.int .i64 0)] K parts := build_eq fl174 z174 rfl parts K
theorem bd186 (parts : List (Nat × AV)) (K : AV → Prop) : awpBuild Tryz.prog 186 parts K = bldE [(0, 1), (1, 1), (2, 1)] [.v (.int .i64 0), .v (.int .i64 0), .v (.int .i64 0)] K parts := build_eq fl186 z186 rfl parts K
theorem bd189 (parts : List (Nat × AV)) (K : AV → Prop) : awpBuild Tryz.prog 189 parts K = bldE [(0, 1)] [.v (.pointer none)] K parts := build_eq fl189 z189 rfl parts K
def q3 := PLift.up ((zZ (zZ (zZ Tryz.underlying22 (zZ es22 as22)) (zZ (zZ fo28_4 sz3) (zZ Tryz.underlying23 es23))) (zZ (zZ as23 (zZ of35 al35)) (zZ (zZ sz35 fo35_2) (zZ of33 Tryz.results3)))))
def q4 := PLift.up ((zZ (zZ (zZ (zZ Tryz.underlying23 (zZ es23 as23)) (zZ of35 (zZ al35 sz35))) (zZ (zZ fo35_0 (zZ of3 fo35_2)) (zZ of33 (zZ fo35_1 Tryz.underlying33)))) (zZ (zZ (zZ es33 (zZ as33 of45)) (zZ al45 (zZ sz45 fo45_2))) (zZ (zZ fo45_3 (zZ bd47 es43)) (zZ (fun tx => append_own (tx := tx) ei43) (zZ (fun tx => append_nil (tx := tx) ei43) Tryz.results4))))))
def q5 := PLift.up ((zZ (zZ (zZ Tryz.underlying22 Tryz.underlying23) (zZ es23 (zZ as23 of35))) (zZ (zZ al35 (zZ sz35 fo35_2)) (zZ of33 (zZ Tryz.underlying33 Tryz.results5)))))
def q6 := PLift.up ((zZ (zZ (zZ bd28 es22) (zZ bd45 es33)) (zZ (zZ al28 sz28) (zZ fo28_9 (zZ of3 Tryz.results6)))))
def q7 := PLift.up ((zZ (zZ es22 (fun tx => append_own (tx := tx) ei22)) (zZ (fun tx => append_nil (tx := tx) ei22) Tryz.results7)))
def q8 := PLift.up ((zZ (zZ (zZ Tryz.underlying22 es22) (zZ as22 of28)) (zZ (zZ al28 sz28) (zZ fo28_0 (zZ sz3 Tryz.results8)))))
def q9 := PLift.up ((zZ (zZ bd63 al63) (zZ sz63 (zZ of63 Tryz.results9))))
def q10 := PLift.up ((zZ (zZ fo75_0 of71) (zZ fo75_3 (zZ sz36 Tryz.results10))))
def q11 := PLift.up ((zZ (zZ fo75_3 (zZ of36 fo75_1)) (zZ (zZ of72 fo75_0) (zZ of71 Tryz.results11))))
def q13 := PLift.up ((zZ (zZ bd89 (zZ al89 sz89)) (zZ of89 (zZ bd92 Tryz.results13))))
def q14 := PLift.up ((zZ bd92 Tryz.results14))
def q15 := PLift.up (Tryz.results15)
def q16 := PLift.up ((zZ (zZ (zZ Tryz.underlying43 es43) (zZ as43 (zZ fo47_1 of3))) (zZ (zZ fo47_2 sz3) (zZ bd92 (zZ bd101 Tryz.results16)))))
def q17 := PLift.up ((zZ (zZ Tryz.underlying33 es33) (zZ as33 (zZ of45 Tryz.results17))))
def q18 := PLift.up ((zZ (zZ (zZ bd63 (zZ al63 sz63)) (zZ Tryz.underlying43 (zZ es43 as43))) (zZ (zZ of47 (zZ al47 sz47)) (zZ (zZ of63 (fun tx => append_own (tx := tx) ei33)) (zZ (fun tx => append_nil (tx := tx) ei33) Tryz.results18)))))
def q19 := PLift.up ((zZ (zZ (zZ Tryz.underlying43 (zZ es43 as43)) (zZ (zZ fo47_0 of3) (zZ al28 sz28))) (zZ (zZ (zZ fo28_3 fo28_4) (zZ fo47_1 bd45)) (zZ (zZ es33 (fun tx => append_own (tx := tx) ei33)) (zZ (fun tx => append_nil (tx := tx) ei33) Tryz.results19)))))
def q20 := PLift.up ((zZ (zZ of28 al28) (zZ bd105 (zZ sz28 Tryz.results20))))
def q21 := PLift.up ((zZ es162 Tryz.results21))
def q27 := PLift.up ((zZ (zZ of28 (zZ al124 sz124)) (zZ (zZ fo124_0 of107) (zZ fo124_1 Tryz.results27))))
def q29 := PLift.up ((zZ Tryz.underlying33 Tryz.results29))
def q30 := PLift.up ((zZ (zZ (zZ (zZ fo63_2 of3) (zZ Tryz.underlying33 (zZ es33 as33))) (zZ (zZ of45 (zZ al45 sz45)) (zZ fo45_2 (zZ fo45_3 bd47)))) (zZ (zZ (zZ es43 (zZ (fun tx => append_own (tx := tx) ei43) (fun tx => append_nil (tx := tx) ei43))) (zZ fo63_0 (zZ of29 fo63_1))) (zZ (zZ Tryz.underlying43 (zZ as43 fo47_1)) (zZ fo47_2 (zZ sz3 Tryz.results30))))))
def q31 := PLift.up ((zZ (zZ (zZ Tryz.underlying43 (zZ es43 as43)) (zZ (zZ of47 al47) (zZ sz47 fo63_2))) (zZ (zZ of3 (zZ fo47_1 fo63_0)) (zZ (zZ of29 fo63_1) (zZ fo47_0 Tryz.results31)))))
def q32 := PLift.up ((zZ (zZ (zZ fo63_0 of29) (zZ fo63_1 (zZ of3 fo63_2))) (zZ (zZ bd92 (zZ bd101 al101)) (zZ sz101 (zZ of101 Tryz.results32)))))
def q34 := PLift.up ((zZ (zZ (zZ (zZ fo75_0 of71) (zZ Tryz.underlying133 (zZ es133 as133))) (zZ (zZ of9 al136) (zZ sz136 (zZ fo136_1 of4)))) (zZ (zZ (zZ es77 (fun tx => append_own (tx := tx) ei77)) (zZ (fun tx => append_nil (tx := tx) ei77) (zZ fo136_0 of107))) (zZ (zZ bd124 es76) (zZ (fun tx => append_own (tx := tx) ei76) (zZ (fun tx => append_nil (tx := tx) ei76) Tryz.results34))))))
def q35 := PLift.up ((zZ (zZ (zZ fo75_0 of71) (zZ al136 (zZ sz136 fo136_1))) (zZ (zZ of4 (zZ fo75_2 of73)) (zZ fo136_0 (zZ of107 Tryz.results35)))))
def q40 := PLift.up ((zZ (zZ (zZ (zZ fo89_2 of3) (zZ fo89_0 of29)) (zZ (zZ fo89_1 Tryz.underlying33) (zZ es33 (zZ as33 of45)))) (zZ (zZ (zZ al45 sz45) (zZ fo45_2 fo45_3)) (zZ (zZ bd47 es43) (zZ (fun tx => append_own (tx := tx) ei43) (zZ (fun tx => append_nil (tx := tx) ei43) Tryz.results40))))))
def q41 := PLift.up ((zZ (zZ (zZ Tryz.underlying43 (zZ es43 as43)) (zZ (zZ of47 al47) (zZ sz47 fo89_2))) (zZ (zZ of3 (zZ fo47_1 fo89_0)) (zZ (zZ of29 fo89_1) (zZ fo47_0 Tryz.results41)))))
def q42 := PLift.up ((zZ (zZ (zZ Tryz.underlying43 (zZ bd147 al147)) (zZ (zZ sz147 es43) (zZ as43 of47))) (zZ (zZ (zZ al47 sz47) (zZ of147 fo92_0)) (zZ (zZ sz3 fo92_4) (zZ of92 Tryz.results42)))))
def q43 := PLift.up (Tryz.results43)
def q44 := PLift.up ((zZ (zZ (zZ Tryz.underlying33 es33) (zZ as33 (zZ fo45_2 of3))) (zZ (zZ fo45_3 (zZ bd47 es43)) (zZ (fun tx => append_own (tx := tx) ei43) (zZ (fun tx => append_nil (tx := tx) ei43) Tryz.results44)))))
def q45 := PLift.up ((zZ (zZ (zZ (zZ al92 sz92) (zZ fo92_1 (zZ of3 fo92_2))) (zZ (zZ Tryz.underlying33 (zZ es33 as33)) (zZ fo45_2 (zZ Tryz.underlying43 es43)))) (zZ (zZ (zZ as43 (zZ of47 al47)) (zZ sz47 (zZ fo45_3 fo47_2))) (zZ (zZ sz3 (zZ fo47_0 bd47)) (zZ (fun tx => append_own (tx := tx) ei43) (zZ (fun tx => append_nil (tx := tx) ei43) Tryz.results45))))))
def q46 := PLift.up ((zZ (zZ Tryz.underlying43 (zZ es43 as43)) (zZ (zZ fo47_1 of3) (zZ fo47_0 Tryz.results46))))
def q47 := PLift.up ((zZ (zZ (zZ Tryz.underlying43 es43) (zZ as43 (zZ of47 fo92_1))) (zZ (zZ of3 fo92_2) (zZ fo92_3 (zZ bd92 Tryz.results47)))))
def q48 := PLift.up ((zZ (zZ (zZ fo116_1 of112) (zZ fo114_0 of76)) (zZ (zZ bd114 fo116_0) (zZ sz112 (zZ fo116_2 Tryz.results48)))))
def q49 := PLift.up ((zZ (zZ (zZ fo116_0 of112) (zZ fo114_0 of76)) (zZ (zZ bd114 fo116_1) (zZ sz112 (zZ fo116_2 Tryz.results49)))))
def q50 := PLift.up (Tryz.results50)
def q51 := PLift.up ((zZ Tryz.underlying33 (zZ of101 Tryz.results51)))
def q52 := PLift.up ((zZ (zZ (zZ fo63_0 (zZ of29 fo63_1)) (zZ of3 (zZ fo47_0 al28))) (zZ (zZ sz28 (zZ fo28_3 fo28_4)) (zZ (zZ fo47_1 bd45) (zZ es33 Tryz.results52)))))
def q53 := PLift.up ((zZ (zZ (zZ of28 al28) (zZ es162 (zZ bd124 sz28))) (zZ (zZ fo28_0 of3) (zZ fo28_1 (zZ bd28 Tryz.results53)))))
def q55 := PLift.up ((zZ (zZ of109 al109) (zZ bd109 (zZ sz109 Tryz.results55))))
def q56 := PLift.up ((zZ (zZ fo109_0 of29) (zZ fo109_1 (zZ of107 Tryz.results56))))
def q65 := PLift.up ((zZ (zZ (zZ (zZ of124 al124) (zZ fo28_5 of4)) (zZ (zZ fo28_0 of3) (zZ fo28_1 (zZ es162 fo28_2)))) (zZ (zZ (zZ fo28_3 fo28_4) (zZ fo28_6 (zZ fo28_7 fo28_8))) (zZ (zZ fo28_9 fo28_10) (zZ fo28_11 (zZ sz124 Tryz.results65))))))
def q68 := PLift.up ((zZ fo45_3 (zZ of3 Tryz.results68)))
def q69 := PLift.up (Tryz.results69)
def q70 := PLift.up (Tryz.results70)
def q71 := PLift.up ((zZ (zZ (zZ (zZ al92 sz92) (zZ fo92_1 (zZ of3 fo92_2))) (zZ (zZ bd89 (zZ al89 sz89)) (zZ Tryz.underlying33 (zZ es33 as33)))) (zZ (zZ (zZ of45 al45) (zZ sz45 (zZ of89 al47))) (zZ (zZ sz47 (zZ of47 es43)) (zZ (fun tx => append_own (tx := tx) ei43) (zZ (fun tx => append_nil (tx := tx) ei43) Tryz.results71))))))
def q73 := PLift.up ((zZ (zZ Tryz.underlying33 bd189) (zZ of101 Tryz.results73)))
def q74 := PLift.up ((zZ (zZ es133 (fun tx => append_own (tx := tx) ei133)) (zZ (fun tx => append_nil (tx := tx) ei133) Tryz.results74)))
def q86 := PLift.up ((zZ (zZ fo147_0 (zZ of29 fo124_0)) (zZ of107 (zZ fo124_1 Tryz.results86))))
def q87 := PLift.up ((zZ (zZ (zZ of124 al124) (zZ fo47_0 (zZ of3 fo47_1))) (zZ (zZ fo47_2 fo47_3) (zZ es162 (zZ sz124 Tryz.results87)))))
def q88 := PLift.up ((zZ (zZ (zZ of124 al124) (zZ fo92_0 (zZ of3 fo92_1))) (zZ (zZ fo92_2 (zZ fo92_3 fo92_4)) (zZ es162 (zZ sz124 Tryz.results88)))))
def q90 := PLift.up ((zZ (zZ Tryz.underlying33 (zZ es33 as33)) (zZ fo45_3 (zZ of3 Tryz.results90))))
def q91 := PLift.up ((zZ (zZ (zZ (zZ of92 al92) (zZ es162 bd124)) (zZ (zZ sz92 fo92_0) (zZ of3 fo92_4))) (zZ (zZ (zZ bd92 al47) (zZ sz47 of47)) (zZ (zZ es43 (fun tx => append_own (tx := tx) ei43)) (zZ (fun tx => append_nil (tx := tx) ei43) Tryz.results91)))))
def q92 := PLift.up ((zZ (zZ fo47_1 of3) (zZ fo47_2 (zZ fo47_3 Tryz.results92))))
def q93 := PLift.up ((zZ (zZ al92 sz92) (zZ Tryz.underlying43 (zZ of47 Tryz.results93))))
def q94 := PLift.up ((zZ (zZ (zZ Tryz.underlying22 (zZ es22 as22)) (zZ of28 (zZ al28 sz28))) (zZ (zZ fo28_7 (zZ of3 fo28_8)) (zZ fo28_9 (zZ sz3 Tryz.results94)))))
def q97 := PLift.up ((zZ (zZ (zZ of124 al124) (zZ es162 (zZ fo47_0 of3))) (zZ (zZ fo47_1 fo47_2) (zZ fo47_3 (zZ sz124 Tryz.results97)))))
def q98 := PLift.up ((zZ (zZ (zZ of124 al124) (zZ fo92_0 (zZ of3 es162))) (zZ (zZ fo92_1 (zZ fo92_2 fo92_3)) (zZ fo92_4 (zZ sz124 Tryz.results98)))))
def q102 := PLift.up ((zZ (zZ (zZ fo101_1 of3) (zZ Tryz.underlying33 (zZ es33 as33))) (zZ (zZ of45 fo101_2) (zZ fo101_4 (zZ bd101 Tryz.results102)))))
def q103 := PLift.up ((zZ (fun tx => append_own (tx := tx) ei33) (zZ (fun tx => append_nil (tx := tx) ei33) Tryz.results103)))
def q106 := PLift.up ((zZ (zZ (zZ of28 al28) (zZ of124 bd28)) (zZ (zZ sz28 es162) (zZ as162 (zZ of3 Tryz.results106)))))
def q110 := PLift.up ((zZ (zZ es162 as162) (zZ of3 Tryz.results110)))
def q119 := PLift.up ((zZ (zZ of124 al124) (zZ bd124 (zZ sz124 Tryz.results119))))
def q122 := PLift.up ((zZ (zZ Tryz.underlying33 es33) (zZ as33 (zZ of45 Tryz.results122))))
def q123 := PLift.up ((zZ (zZ (zZ (zZ of92 al92) (zZ bd147 al147)) (zZ (zZ sz147 of147) (zZ sz92 bd92))) (zZ (zZ (zZ fo92_4 of3) (zZ Tryz.underlying43 al47)) (zZ (zZ sz47 of47) (zZ es43 (zZ as43 Tryz.results123))))))
def q124 := PLift.up ((zZ (zZ (zZ (zZ of47 al47) (zZ fo89_0 of29)) (zZ (zZ fo89_2 of3) (zZ al92 (zZ sz92 fo45_2)))) (zZ (zZ (zZ Tryz.underlying43 bd47) (zZ sz47 (zZ es43 as43))) (zZ (zZ fo45_3 fo47_2) (zZ sz3 (zZ fo47_0 Tryz.results124))))))
def q128 := PLift.up ((zZ (zZ (zZ (zZ fo189_0 of29) (zZ fo101_1 of3)) (zZ (zZ Tryz.underlying33 es33) (zZ as33 of45))) (zZ (zZ (zZ al45 sz45) (zZ of189 fo101_0)) (zZ (zZ sz3 fo101_3) (zZ fo101_5 (zZ of101 Tryz.results128))))))
def q129 := PLift.up ((zZ es278 Tryz.results129))
def q143 := PLift.up ((zZ (zZ of174 al174) (zZ bd174 (zZ sz174 Tryz.results143))))
def q144 := PLift.up ((zZ (zZ of174 al174) (zZ bd174 (zZ sz174 Tryz.results144))))
def q145 := PLift.up (Tryz.results145)
def q146 := PLift.up ((zZ (zZ (zZ of92 al92) (zZ of124 bd92)) (zZ (zZ sz92 es162) (zZ as162 (zZ of3 Tryz.results146)))))
def q147 := PLift.up ((zZ (zZ of47 (zZ al47 es162)) (zZ bd124 (zZ sz47 Tryz.results147))))
def q148 := PLift.up ((zZ (zZ (zZ Tryz.underlying22 al28) (zZ sz28 (zZ of28 es22))) (zZ (zZ (fun tx => append_own (tx := tx) ei22) (fun tx => append_nil (tx := tx) ei22)) (zZ fo28_2 (zZ of3 Tryz.results148)))))
def q149 := PLift.up (Tryz.results149)
def q150 := PLift.up ((zZ (zZ of28 (zZ fo28_6 of3)) (zZ fo28_5 (zZ of4 Tryz.results150))))
def q162 := PLift.up ((zZ (zZ (zZ of124 al124) (zZ es162 fo45_0)) (zZ (zZ of3 fo45_1) (zZ fo45_3 (zZ sz124 Tryz.results162)))))
def q163 := PLift.up ((zZ (zZ fo45_0 (zZ of3 fo45_1)) (zZ fo45_3 (zZ es162 Tryz.results163))))
def q164 := PLift.up ((zZ (zZ (zZ of124 (zZ al124 fo101_0)) (zZ of3 (zZ es162 fo101_1))) (zZ (zZ fo101_2 (zZ fo101_3 fo101_4)) (zZ fo101_5 (zZ sz124 Tryz.results164)))))
def q165 := PLift.up ((zZ (zZ (zZ Tryz.underlying33 es33) (zZ as33 (zZ fo45_3 of3))) (zZ (zZ fo45_0 bd45) (zZ (fun tx => append_own (tx := tx) ei33) (zZ (fun tx => append_nil (tx := tx) ei33) Tryz.results165)))))
def q168 := PLift.up ((zZ (zZ fo124_0 of107) (zZ fo124_1 Tryz.results168)))
def q173 := PLift.up ((zZ (zZ (zZ of92 (zZ al92 of147)) (zZ es162 (zZ al124 sz124))) (zZ (zZ bd92 (zZ sz92 of124)) (zZ (zZ fo92_0 of3) (zZ fo92_4 Tryz.results173)))))
def q174 := PLift.up ((zZ (zZ (zZ of47 al47) (zZ of147 (zZ es162 al124))) (zZ (zZ sz124 bd47) (zZ sz47 (zZ of124 Tryz.results174)))))
def q175 := PLift.up ((zZ (zZ fo47_1 of3) (zZ fo47_2 (zZ fo47_3 Tryz.results175))))
def q176 := PLift.up ((zZ (zZ al92 (zZ sz92 Tryz.underlying43)) (zZ bd147 (zZ of47 Tryz.results176))))
def q181 := PLift.up ((zZ (zZ of189 of45) (zZ fo189_0 (zZ of29 Tryz.results181))))
def q182 := PLift.up ((zZ (zZ fo189_0 (zZ of29 fo124_0)) (zZ of107 (zZ fo124_1 Tryz.results182))))
def q183 := PLift.up ((zZ (zZ (zZ of124 (zZ al124 fo101_0)) (zZ of3 (zZ fo101_1 fo101_2))) (zZ (zZ fo101_3 (zZ fo101_4 fo101_5)) (zZ es162 (zZ sz124 Tryz.results183)))))
def q184 := PLift.up ((zZ (zZ (zZ Tryz.underlying278 es278) (zZ as278 of33)) (zZ (zZ Tryz.underlying33 (fun tx => append_own (tx := tx) ei33)) (zZ (fun tx => append_nil (tx := tx) ei33) Tryz.results184))))
def q185 := PLift.up ((zZ (zZ (zZ Tryz.underlying33 es33) (zZ as33 of45)) (zZ (zZ al45 sz45) (zZ (fun tx => append_own (tx := tx) ei33) (zZ (fun tx => append_nil (tx := tx) ei33) Tryz.results185)))))
def q202 := PLift.up ((zZ (zZ (zZ of47 al47) (zZ of124 bd47)) (zZ (zZ sz47 es162) (zZ as162 (zZ of3 Tryz.results202)))))
def q203 := PLift.up ((zZ (zZ fo28_7 of3) (zZ fo28_8 (zZ fo28_9 Tryz.results203))))
def q204 := PLift.up (Tryz.results204)
def q209 := PLift.up (Tryz.results209)
def q210 := PLift.up ((zZ es162 Tryz.results210))
def q211 := PLift.up ((zZ (zZ fo116_1 of112) (zZ fo116_2 Tryz.results211)))
def q212 := PLift.up ((zZ (zZ (zZ Tryz.underlying33 es33) (zZ as33 (zZ fo45_0 of3))) (zZ (zZ fo45_3 (zZ sz3 (fun tx => append_own (tx := tx) ei33))) (zZ (fun tx => append_nil (tx := tx) ei33) (zZ bd45 Tryz.results212)))))
def q214 := PLift.up ((zZ Tryz.underlying162 Tryz.results214))
def q218 := PLift.up ((zZ (zZ of124 (zZ al124 fo147_0)) (zZ (zZ of29 bd124) (zZ sz124 Tryz.results218))))
def q219 := PLift.up ((zZ (zZ (zZ of92 al92) (zZ of124 bd92)) (zZ (zZ sz92 es162) (zZ as162 (zZ of3 Tryz.results219)))))
def q220 := PLift.up ((zZ (zZ (zZ of47 al47) (zZ of124 bd47)) (zZ (zZ sz47 es162) (zZ as162 (zZ of3 Tryz.results220)))))
def q223 := PLift.up ((zZ (zZ (zZ of124 al124) (zZ fo45_0 of3)) (zZ (zZ fo45_1 fo45_3) (zZ es162 (zZ sz124 Tryz.results223)))))
def q224 := PLift.up ((zZ (zZ (zZ fo45_0 of3) (zZ fo45_1 es162)) (zZ (zZ al109 sz109) (zZ of109 (zZ fo45_3 Tryz.results224)))))
def q225 := PLift.up ((zZ (zZ of174 al174) (zZ bd174 (zZ sz174 Tryz.results225))))
def q227 := PLift.up ((zZ (zZ (zZ Tryz.underlying33 (zZ es33 as33)) (zZ of45 (zZ al45 sz45))) (zZ (zZ fo45_0 (zZ of3 fo45_3)) (zZ (zZ bd45 (fun tx => append_own (tx := tx) ei33)) (zZ (fun tx => append_nil (tx := tx) ei33) Tryz.results227)))))
def q228 := PLift.up ((zZ (zZ fo45_3 (zZ of3 fo45_0)) (zZ bd45 (zZ es33 Tryz.results228))))
def q273 := PLift.up (Tryz.results273)
def q274 := PLift.up ((zZ (zZ (zZ fo114_0 (zZ of76 Tryz.underlying76)) (zZ (zZ es76 as76) (zZ fo124_0 of107))) (zZ (zZ (fun src => cvX_str (src := src) Tryz.underlying9) (zZ Tryz.underlying107 of124)) (zZ (zZ (fun tx => append_own (tx := tx) ei76) (fun tx => append_nil (tx := tx) ei76)) (zZ sz76 Tryz.results274)))))
def q277 := PLift.up ((zZ (zZ (zZ Tryz.underlying107 es162) (zZ (fun tx => append_own (tx := tx) ei162) (fun tx => append_nil (tx := tx) ei162))) (zZ (zZ es107 as107) (zZ of5 Tryz.results277))))
def q278 := PLift.up ((zZ (zZ of174 al174) (zZ bd174 (zZ sz174 Tryz.results278))))
def q279 := PLift.up (Tryz.results279)
def q280 := PLift.up ((zZ (zZ fo109_0 (zZ of29 fo109_1)) (zZ of107 (zZ es162 Tryz.results280))))
def q323 := PLift.up (Tryz.results323)
def q324 := PLift.up ((zZ (zZ fo75_0 (zZ of71 (fun src => cvX_str (src := src) Tryz.underlying9))) (zZ Tryz.underlying107 (zZ bd136 Tryz.results324))))
end Go.Proofs.Lx
