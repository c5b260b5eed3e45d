/- Nodes as records. -/
import Derived.Test.YthfbpdipilajoaaGreatDoorL9
set_option linter.unusedSimpArgs false
set_option linter.unusedVariables false
namespace Go.Proofs.Lx
open Go.Vm
attribute [local irreducible] awpArr awpBin awpMake awpAppend awpCvX awpStrOf awpBinX awpSlice awpBS awpStore awpAlloc awpCopy awpIndex awpDraw awpIdxX awpFa awpField awpLookup awpUpdate awpDelete awpClear awpRange awpNext awpEntry awpBuild

structure Nd where
  year : Int
  id : Int
  parent : Int
  fund : Int
  obj : Int
  abs : Bool
  limit : Int
  pre : Int
  enc : Int
  exp : Int
  lapsed : Int
  carried : Int
def Nd.zero : Nd := ⟨0, 0, 0, 0, 0, false, 0, 0, 0, 0, 0, 0⟩
def ndCells (n : Nd) : List AV := [.v (.int .i64 n.year), .v (.int .i64 n.id), .v (.int .i64 n.parent), .v (.int .i64 n.fund), .v (.int .i64 n.obj), .v (.bool n.abs), .v (.int .i64 n.limit), .v (.int .i64 n.pre), .v (.int .i64 n.enc), .v (.int .i64 n.exp), .v (.int .i64 n.lapsed), .v (.int .i64 n.carried)]
def ndKey (n : Nd) : List Int := [n.year, n.id]
def ndVal (n : Nd) : List Int := [n.parent, n.fund, n.obj, bitOf n.abs, n.limit, n.pre, n.enc, n.exp, n.lapsed, n.carried]
def Nd.ok (n : Nd) : Prop := I64 n.year ∧ I64 n.id ∧ I64 n.parent ∧ I64 n.fund ∧ I64 n.obj ∧ I64 n.limit ∧ I64 n.pre ∧ I64 n.enc ∧ I64 n.exp ∧ I64 n.lapsed ∧ I64 n.carried
theorem bit_i64 (b : Bool) : I64 (bitOf b) := by cases b <;> (unfold I64 bitOf; simp)
theorem packOf_ten (a b c d e f g h i j : Int) : packOf [a, b, c, d, e, f, g, h, i, j] = packs 8 [a, b, c, d, e, f, g, h, i, j] := rfl

def nodeSpec : Vm.Spec := fun args h Q => ∃ n : Nd, n.ok ∧ args = [.agg (ndCells n)] ∧ Q (.agg [.sl 1 ((keyOf 78 (ndKey n)).map encB), .sl 1 ((packOf (ndVal n)).map encB)]) h

theorem does_node : Does Tryz.prog 128 nodeSpec := by
  refine does_of_awp (good_cons does_nodes (good_cons does_bit (good_cons does_pair good_nil))) Tryz.func128 rfl (by decide +kernel) (by decide +kernel) ?_
  rintro args h Q ⟨n, ⟨o1, o2, o3, o4, o5, o6, o7, o8, o9, o10, o11⟩, rfl, hq⟩
  refine ⟨by simp [Tryz.f128], ?_⟩
  rw [awpFunc_some (by rfl)]
  simp -dsimp only [Vm.E, List.lookup, Nat.reduceAdd, Nat.reduceBEq, Int.reduceBNe, Int.reduceBEq, Bool.true_beq, Bool.false_beq, ndCells, al47]
  refine draw_pub [1] (.take 1 (.take 2 (.take 3 (.take 4 (.take 5 (.take 6 (.take 7 (.take 8 (.take 9 (.take 10 (.take 11 (.take 12 (.take 14 (.take 15 (.take 16 (.take 17 (.take 18 (.take 19 (.take 20 (.take 21 (.take 22 (.take 23 (.take 24 (.take 25 (.alt 0 (.alt 13 (.alt 26 (.alt 27 (.alt 28 (.done) .stop) .stop) .stop) .stop) .stop))))))))))))))))))))))))) (by kernel_rfl) (by kernel_rfl) (by kernel_rfl) (by decide) ?_
  simp -dsimp only [Vm.E, List.lookup, Nat.reduceAdd, Nat.reduceBEq, Int.reduceBNe, Int.reduceBEq, Bool.true_beq, Bool.false_beq, fo25_0, fo25_1, fo25_2, fo25_3, fo25_4, fo25_5, fo25_6, fo25_7, fo25_8, fo25_9, fo25_10, fo25_11, of3, of4]
  refine call_one (S := tabSpec 78 2 10) rfl _ GaL.rfl ⟨rfl, ?_⟩
  simp -dsimp only [Vm.E, List.lookup, Nat.reduceAdd, Nat.reduceBEq, Int.reduceBNe, Int.reduceBEq, Bool.true_beq, Bool.false_beq]
  refine call_one (S := bitSpec) rfl _ GaL.rfl ⟨n.abs, rfl, ?_⟩
  simp -dsimp only [Vm.E, List.lookup, Nat.reduceAdd, Nat.reduceBEq, Int.reduceBNe, Int.reduceBEq, Bool.true_beq, Bool.false_beq, es41]
  refine bs_intro zr3 (by decide) (by decide) rfl rfl (by simp [solid, AV.cells]) ?_
  simp -dsimp only [Vm.E, List.lookup, Nat.reduceAdd, Nat.reduceBEq, Int.reduceBNe, Int.reduceBEq, Bool.true_beq, Bool.false_beq]
  refine call_one (S := pairSpec) rfl _ GaL.rfl ⟨78, 2, 10, [n.year, n.id, n.parent, n.fund, n.obj, bitOf n.abs, n.limit, n.pre, n.enc, n.exp, n.lapsed, n.carried], by simp, by simp, ?_, rfl, ?_⟩
  · intro m hm
    simp only [List.mem_cons, List.not_mem_nil, or_false] at hm
    have ob := bit_i64 n.abs
    rcases hm with rfl | rfl | rfl | rfl | rfl | rfl | rfl | rfl | rfl | rfl | rfl | rfl <;> assumption
  · simp -dsimp only [Vm.E, List.lookup, Nat.reduceAdd, Nat.reduceBEq, Int.reduceBNe, Int.reduceBEq, Bool.true_beq, Bool.false_beq, sto_place, sto_box, sto_pp, sto_pc, sto_ptr, sto_cells, stoOk_eq, solid_v, solid_sl, solid_agg, solid_eptr, solid_ptr, solid_mp, solid_clo, cells_eptr, put_nil, put_zero, put_succ, bld_nil, bld_cons, bld_some, bsIx_nil, bsIx_cons, bsAll_nil, bsAll_cons, List.length_cons, List.length_nil, Nat.reduceLeDiff, decide_true, Bool.and_self, Bool.and_true, Bool.true_and, take_sc, take_z, eq_self, sz47, of47, Tryz.results128]
    exact hq

/-- The node of a record. -/
def ndOf (l : List Int) : Nd := ⟨l.getD 0 0, l.getD 1 0, l.getD 2 0, l.getD 3 0, l.getD 4 0, l.getD 5 0 != 0, l.getD 6 0, l.getD 7 0, l.getD 8 0, l.getD 9 0, l.getD 10 0, l.getD 11 0⟩
def nodeOf (key val : List UInt8) : Option Nd := (numsPair 78 2 10 key val).map ndOf
def nodeOfSpec : Vm.Spec := fun args h Q => ∃ key val : List UInt8, key.length ≤ 4611686018427387904 ∧ val.length ≤ 4611686018427387904 ∧ args = [.agg [.sl 1 (key.map encB), .sl 1 (val.map encB)]] ∧
  (∀ n, nodeOf key val = some n → Q (.tup [.agg (ndCells n), .v (.bool true)]) h) ∧ (nodeOf key val = none → Q (.tup [.agg (ndCells .zero), .v (.bool false)]) h)

theorem numsPair_length {tag : UInt8} {k v : Nat} {key val : List UInt8} {l : List Int} (h : numsPair tag k v key val = some l) : l.length = k + v := by
  unfold numsPair at h
  split at h
  · split at h
    · rename_i hc; cases h; simp [numsOf, hc.2.1]
    · cases h
  · cases h

theorem does_nodeOf : Does Tryz.prog 154 nodeOfSpec := by
  refine does_of_awp (good_cons does_nodes (good_cons does_nums good_nil)) Tryz.func154 rfl (by decide +kernel) (by decide +kernel) ?_
  rintro args h Q ⟨key, val, hk, hv, rfl, hq1, hq2⟩
  refine ⟨by simp [Tryz.f154], ?_⟩
  rw [awpFunc_some (by rfl)]
  unfold nodeOf at hq1 hq2
  simp -dsimp only [Vm.E, List.lookup, Nat.reduceAdd, Nat.reduceBEq, Int.reduceBNe, Int.reduceBEq, Bool.true_beq, Bool.false_beq, al25]
  refine draw_cont [1] (.take 1 (.alt 0 (.alt 2 (.take 3 (.take 4 (.take 5 (.alt 6 (.alt 7 (.done) .stop) .stop)))) .stop) .stop)) (fun s h' => h' = h ∧ s 2 = .box (ndCells .zero) ∧ ((∃ l, numsPair 78 2 10 key val = some l ∧ s 4 = .own true 3 1 (l.map encI) ∧ s 5 = .v (.bool true)) ∨ (numsPair 78 2 10 key val = none ∧ s 5 = .v (.bool false))))
    (by kernel_rfl) (by kernel_rfl) (by kernel_rfl) (by decide) ?_ ?_
  · simp -dsimp only [Vm.E, List.lookup, Nat.reduceAdd, Nat.reduceBEq, Int.reduceBNe, Int.reduceBEq, Bool.true_beq, Bool.false_beq, sto_place, sto_box, sto_pp, sto_pc, sto_ptr, sto_cells, stoOk_eq, solid_v, solid_sl, solid_agg, solid_eptr, solid_ptr, solid_mp, solid_clo, cells_eptr, put_nil, put_zero, put_succ, bld_nil, bld_cons, bld_some, bsIx_nil, bsIx_cons, bsAll_nil, bsAll_cons, List.length_cons, List.length_nil, Nat.reduceLeDiff, decide_true, Bool.and_self, Bool.and_true, Bool.true_and, take_sc, take_z, eq_self, of47]
    refine call_one (S := tabSpec 78 2 10) rfl _ GaL.rfl ⟨rfl, ?_⟩
    simp -dsimp only [Vm.E, List.lookup, Nat.reduceAdd, Nat.reduceBEq, Int.reduceBNe, Int.reduceBEq, Bool.true_beq, Bool.false_beq]
    refine call_one (S := numsSpec) rfl _ GaL.rfl ⟨78, 2, 10, key, val, by decide, hk, hv, rfl, fun l hl => ?_, fun hl => ?_, fun hl l => ?_⟩
    · simp -dsimp only [Vm.E, List.lookup, Nat.reduceAdd, Nat.reduceBEq, Int.reduceBNe, Int.reduceBEq, Bool.true_beq, Bool.false_beq]
      exact ⟨rfl, .inl ⟨l, hl, rfl, trivial⟩⟩
    · simp -dsimp only [Vm.E, List.lookup, Nat.reduceAdd, Nat.reduceBEq, Int.reduceBNe, Int.reduceBEq, Bool.true_beq, Bool.false_beq]
      exact ⟨rfl, .inr ⟨hl, trivial⟩⟩
    · simp -dsimp only [Vm.E, List.lookup, Nat.reduceAdd, Nat.reduceBEq, Int.reduceBNe, Int.reduceBEq, Bool.true_beq, Bool.false_beq]
      exact ⟨rfl, .inr ⟨hl, trivial⟩⟩
  · rintro s h' ⟨rfl, hs2, ⟨l, hl, hs4, hs5⟩ | ⟨hl, hs5⟩⟩
    · rw [hl] at hq1
      have hlen := numsPair_length hl
      have hq1' := hq1 (ndOf l) rfl
      clear hq1 hq2 hl
      match l, hlen with
      | [a0, a1, a2, a3, a4, a5, a6, a7, a8, a9, a10, a11], _ =>
      simp -dsimp only [Vm.E, List.lookup, Nat.reduceAdd, Nat.reduceBEq, Int.reduceBNe, Int.reduceBEq, Bool.true_beq, Bool.false_beq, hs5]
      refine draw_cont [4] (.take 0 (.take 1 (.take 2 (.take 3 (.take 4 (.take 5 (.take 6 (.take 7 (.take 8 (.take 9 (.take 10 (.take 11 (.take 12 (.take 13 (.take 14 (.take 15 (.take 16 (.take 17 (.take 18 (.alt 19 (.alt 20 (.alt 21 (.done) .stop) .stop) (.alt 20 (.alt 19 (.alt 21 (.done) .stop) .stop) (.stop)))))))))))))))))))))) (fun s h'' => h'' = h' ∧ s 2 = .box (ndCells .zero) ∧ s 4 = .sl 1 ([a0, a1, a2, a3, a4, a5, a6, a7, a8, a9, a10, a11].map encI) ∧
          s 6 = .box [.v (.int .i64 a0), .v (.int .i64 a1), .v (.int .i64 a2), .v (.int .i64 a3), .v (.int .i64 a4), .v (.bool (a5 != 0)), .v (.int .i64 0), .v (.int .i64 0), .v (.int .i64 0), .v (.int .i64 0), .v (.int .i64 0), .v (.int .i64 0)])
        (by kernel_rfl) (by kernel_rfl) (by kernel_rfl) (by decide) ?_ ?_
      · simp -dsimp only [Vm.E, List.lookup, Nat.reduceAdd, Nat.reduceBEq, Int.reduceBNe, Int.reduceBEq, Bool.true_beq, Bool.false_beq, idx_lit, idxE_some, Int.reduceToNat, Int.reduceLE, decide_true, eq_self, hs2, hs4, hs5, encI, es41, as41, of3]
        refine tree_alt ?_ (tree_alt ?_ trivial)
        · simp -dsimp only [Vm.E, List.lookup, Nat.reduceAdd, Nat.reduceBEq, Int.reduceBNe, Int.reduceBEq, Bool.true_beq, Bool.false_beq, sto_place, sto_box, sto_pp, sto_pc, sto_ptr, sto_cells, stoOk_eq, solid_v, solid_sl, solid_agg, solid_eptr, solid_ptr, solid_mp, solid_clo, cells_eptr, put_nil, put_zero, put_succ, bld_nil, bld_cons, bld_some, bsIx_nil, bsIx_cons, bsAll_nil, bsAll_cons, List.length_cons, List.length_nil, Nat.reduceLeDiff, decide_true, Bool.and_self, Bool.and_true, Bool.true_and, take_sc, take_z, eq_self, hs2, hs4, hs5, al25, bd25, sz25]
        · simp -dsimp only [Vm.E, List.lookup, Nat.reduceAdd, Nat.reduceBEq, Int.reduceBNe, Int.reduceBEq, Bool.true_beq, Bool.false_beq, sto_place, sto_box, sto_pp, sto_pc, sto_ptr, sto_cells, stoOk_eq, solid_v, solid_sl, solid_agg, solid_eptr, solid_ptr, solid_mp, solid_clo, cells_eptr, put_nil, put_zero, put_succ, bld_nil, bld_cons, bld_some, bsIx_nil, bsIx_cons, bsAll_nil, bsAll_cons, List.length_cons, List.length_nil, Nat.reduceLeDiff, decide_true, Bool.and_self, Bool.and_true, Bool.true_and, take_sc, take_z, eq_self, hs2, hs4, hs5, al25, bd25, sz25]
      · rintro s2 h2 ⟨rfl, g2, g4, g6⟩
        clear hs2 hs4 hs5
        simp -dsimp only [Vm.E, List.lookup, Nat.reduceAdd, Nat.reduceBEq, Int.reduceBNe, Int.reduceBEq, Bool.true_beq, Bool.false_beq]
        refine draw_intro (.take 0 (.take 1 (.take 2 (.take 3 (.take 4 (.take 5 (.take 6 (.take 7 (.take 8 (.take 9 (.take 10 (.take 11 (.take 12 (.alt 13 (.take 14 (.alt 15 (.take 16 (.alt 17 (.take 18 (.alt 19 (.done) .stop)) .stop)) .stop)) .stop)))))))))))))) (by kernel_rfl) (by kernel_rfl) (by kernel_rfl) (by decide) ?_
        simp -dsimp only [Vm.E, List.lookup, Nat.reduceAdd, Nat.reduceBEq, Int.reduceBNe, Int.reduceBEq, Bool.true_beq, Bool.false_beq, idx_lit, idxE_some, Int.reduceToNat, Int.reduceLE, decide_true, eq_self, sto_place, sto_box, sto_pp, sto_pc, sto_ptr, sto_cells, stoOk_eq, solid_v, solid_sl, solid_agg, solid_eptr, solid_ptr, solid_mp, solid_clo, cells_eptr, put_nil, put_zero, put_succ, bld_nil, bld_cons, bld_some, bsIx_nil, bsIx_cons, bsAll_nil, bsAll_cons, List.length_cons, List.length_nil, Nat.reduceLeDiff, decide_true, Bool.and_self, Bool.and_true, Bool.true_and, take_sc, take_z, eq_self, g2, g4, g6, encI, es41, as41, of3, sz3, fo25_6, fo25_7, fo25_8, fo25_9]
        refine draw_intro (.take 0 (.take 1 (.take 2 (.take 3 (.take 4 (.take 5 (.take 6 (.alt 7 (.take 8 (.alt 9 (.done) .stop)) .stop)))))))) (by kernel_rfl) (by kernel_rfl) (by kernel_rfl) (by decide) ?_
        simp -dsimp only [Vm.E, List.lookup, Nat.reduceAdd, Nat.reduceBEq, Int.reduceBNe, Int.reduceBEq, Bool.true_beq, Bool.false_beq, idx_lit, idxE_some, Int.reduceToNat, Int.reduceLE, decide_true, eq_self, sto_place, sto_box, sto_pp, sto_pc, sto_ptr, sto_cells, stoOk_eq, solid_v, solid_sl, solid_agg, solid_eptr, solid_ptr, solid_mp, solid_clo, cells_eptr, put_nil, put_zero, put_succ, bld_nil, bld_cons, bld_some, bsIx_nil, bsIx_cons, bsAll_nil, bsAll_cons, List.length_cons, List.length_nil, Nat.reduceLeDiff, decide_true, Bool.and_self, Bool.and_true, Bool.true_and, take_sc, take_z, eq_self, g2, g4, g6, encI, es41, as41, of3, sz3, fo25_10, fo25_11, of25, sz25, ndCells, Tryz.results154]
        exact hq1'
    · rw [hl] at hq2
      simp -dsimp only [Vm.E, List.lookup, Nat.reduceAdd, Nat.reduceBEq, Int.reduceBNe, Int.reduceBEq, Bool.true_beq, Bool.false_beq, sto_place, sto_box, sto_pp, sto_pc, sto_ptr, sto_cells, stoOk_eq, solid_v, solid_sl, solid_agg, solid_eptr, solid_ptr, solid_mp, solid_clo, cells_eptr, put_nil, put_zero, put_succ, bld_nil, bld_cons, bld_some, bsIx_nil, bsIx_cons, bsAll_nil, bsAll_cons, List.length_cons, List.length_nil, Nat.reduceLeDiff, decide_true, Bool.and_self, Bool.and_true, Bool.true_and, take_sc, take_z, eq_self, hs2, hs5, ndCells, bd25, sz25, of25, Tryz.results154]
      exact hq2 rfl

end Go.Proofs.Lx
