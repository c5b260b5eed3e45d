/- Years. -/
import Derived.Test.YthfbpdipilajoaaGreatDoorL21
set_option linter.unusedSimpArgs false
set_option linter.unusedVariables false
namespace Go.Proofs.Lx
open Go.Vm
attribute [local irreducible] awpArr awpBin awpMake awpAppend awpCvX awpStrOf awpBinX awpSlice awpBS awpStore awpAlloc awpCopy awpIndex awpDraw awpIdxX awpFa awpField awpLookup awpUpdate awpDelete awpClear awpRange awpNext awpEntry awpBuild awpClearS awpIdxL

def yrK (n : Int) : List UInt8 := keyOf 89 [n]
theorem yrK_length (n : Int) : (yrK n).length = 5 := by simp [yrK, keyOf, packs, be_length]
def yrAv (iv : Nat) (n : Int) : AV := .agg [.ptr iv 0, .v (.int .i64 n)]
def yrKeySpec : Vm.Spec := fun args h Q => ∃ iv n, args = [.agg [.ptr iv 0, .v (.int .i64 n)]] ∧ Q (.own true 5 1 ((yrK n).map encB)) h
theorem does_yrKey : Does Tryz.prog 166 yrKeySpec := by
  refine does_of_awp (good_cons does_key good_nil) Tryz.func166 rfl (by decide +kernel) (by decide +kernel) ?_
  rintro args h Q ⟨iv, n, rfl, hq⟩
  refine ⟨by simp [Tryz.f166], ?_⟩
  rw [awpFunc_some (by rfl)]
  simp -dsimp only [Vm.E, List.lookup, Nat.reduceAdd, Nat.reduceBEq, Int.reduceBNe, Int.reduceBEq, Bool.true_beq, Bool.false_beq, sto_place, sto_box, sto_pp, sto_pc, sto_ptr, sto_cells, stoOk_eq, solid_v, solid_sl, solid_agg, solid_eptr, solid_ptr, solid_mp, solid_clo, cells_eptr, put_nil, put_zero, put_succ, bld_nil, bld_cons, bld_some, bsIx_nil, bsIx_cons, bsAll_nil, bsAll_cons, List.length_cons, List.length_nil, Nat.reduceLeDiff, decide_true, Bool.and_self, Bool.and_true, Bool.true_and, take_sc, take_z, eq_self, fo146_1, of3, es41]
  refine bs_intro zr3 (by decide) (by decide) rfl rfl (by simp [solid, AV.cells]) ?_
  simp -dsimp only [Vm.E, List.lookup, Nat.reduceAdd, Nat.reduceBEq, Int.reduceBNe, Int.reduceBEq, Bool.true_beq, Bool.false_beq]
  refine call_one (S := keySpec) rfl _ GaL.rfl ⟨89, [n], by simp, rfl, ?_⟩
  simp -dsimp only [Vm.E, List.lookup, Nat.reduceAdd, Nat.reduceBEq, Int.reduceBNe, Int.reduceBEq, Bool.true_beq, Bool.false_beq, Tryz.results166]
  exact hq
/-- The state of a year. -/
def stateOf (f : Fun) (n : Int) : Int := if readOf f (yrK n) = 1 ∨ readOf f (yrK n) = 2 then readOf f (yrK n) else 0
def yrStateSpec : Vm.Spec := fun args h Q => ∃ V f n, args = [.agg [.ptr V.iv 0, .v (.int .i64 n)]] ∧ isView h V f ∧ Q (.v (.int .i64 (stateOf f n))) h

theorem does_yrState : Does Tryz.prog 100 yrStateSpec := by
  refine does_of_awp (good_cons does_yrKey (good_cons does_vgetW (good_cons does_unpack good_nil))) Tryz.func100 rfl (by decide +kernel) (by decide +kernel) ?_
  rintro args h Q ⟨V, f, n, rfl, hV, hq⟩
  refine ⟨by simp [Tryz.f100], ?_⟩
  rw [awpFunc_some (by rfl)]
  have hlen := fun l => hV.len (yrK n) l
  unfold stateOf at hq
  simp -dsimp only [Vm.E, List.lookup, Nat.reduceAdd, Nat.reduceBEq, Int.reduceBNe, Int.reduceBEq, Bool.true_beq, Bool.false_beq, sto_place, sto_box, sto_pp, sto_pc, sto_ptr, sto_cells, stoOk_eq, solid_v, solid_sl, solid_agg, solid_eptr, solid_ptr, solid_mp, solid_clo, cells_eptr, put_nil, put_zero, put_succ, bld_nil, bld_cons, bld_some, bsIx_nil, bsIx_cons, bsAll_nil, bsAll_cons, List.length_cons, List.length_nil, Nat.reduceLeDiff, decide_true, Bool.and_self, Bool.and_true, Bool.true_and, take_sc, take_z, eq_self]
  refine draw_pub [1] (.take 0 (.take 1 (.take 2 (.alt 3 (.alt 4 (.take 5 (.take 6 (.take 7 (.alt 8 (.alt 9 (.done) .stop) .stop)))) .stop) .stop)))) (by kernel_rfl) (by kernel_rfl) (by kernel_rfl) (by decide) ?_
  simp -dsimp only [Vm.E, List.lookup, Nat.reduceAdd, Nat.reduceBEq, Int.reduceBNe, Int.reduceBEq, Bool.true_beq, Bool.false_beq, sto_place, sto_box, sto_pp, sto_pc, sto_ptr, sto_cells, stoOk_eq, solid_v, solid_sl, solid_agg, solid_eptr, solid_ptr, solid_mp, solid_clo, cells_eptr, put_nil, put_zero, put_succ, bld_nil, bld_cons, bld_some, bsIx_nil, bsIx_cons, bsAll_nil, bsAll_cons, List.length_cons, List.length_nil, Nat.reduceLeDiff, decide_true, Bool.and_self, Bool.and_true, Bool.true_and, take_sc, take_z, eq_self, fo146_0, of26, of146]
  refine call_one (S := yrKeySpec) rfl _ GaL.rfl ⟨V.iv, n, rfl, ?_⟩
  simp -dsimp only [Vm.E, List.lookup, Nat.reduceAdd, Nat.reduceBEq, Int.reduceBNe, Int.reduceBEq, Bool.true_beq, Bool.false_beq, sto_place, sto_box, sto_pp, sto_pc, sto_ptr, sto_cells, stoOk_eq, solid_v, solid_sl, solid_agg, solid_eptr, solid_ptr, solid_mp, solid_clo, cells_eptr, put_nil, put_zero, put_succ, bld_nil, bld_cons, bld_some, bsIx_nil, bsIx_cons, bsAll_nil, bsAll_cons, List.length_cons, List.length_nil, Nat.reduceLeDiff, decide_true, Bool.and_self, Bool.and_true, Bool.true_and, take_sc, take_z, eq_self]
  refine call_one (S := vgetWSpec) rfl _ GaL.rfl ⟨V, f, yrK n, rfl, hV, fun l hf => ?_, fun hf => ?_⟩
  · have hl := hlen l hf
    have er : readOf f (yrK n) = if l.length = 8 then num8 l 0 else 0 := by unfold readOf; rw [hf]
    rw [er] at hq
    clear er
    obtain ⟨x, hx⟩ : ∃ x, num8 l 0 = x := ⟨_, rfl⟩
    rw [hx] at hq
    simp -dsimp only [Vm.E, List.lookup, Nat.reduceAdd, Nat.reduceBEq, Int.reduceBNe, Int.reduceBEq, Bool.true_beq, Bool.false_beq]
    refine call_one (S := unpackSpec) rfl _ GaL.rfl ⟨l, 1, by omega, by unfold I64; omega, rfl, ?_⟩
    unfold unpackRes
    by_cases h8 : l.length = 8
    · rw [if_pos h8] at hq
      rw [if_neg (by omega), if_neg (by simp [h8])]
      simp -dsimp only [Vm.E, List.lookup, Nat.reduceAdd, Nat.reduceBEq, Int.reduceBNe, Int.reduceBEq, Bool.true_beq, Bool.false_beq, bne_self_eq_false, es41, as41]
      refine idx_ints (numsOf l 1) 0 (by simp [numsOf]) ?_
      have e0 : (numsOf l 1)[0]'(by simp [numsOf]) = x := by rw [← hx]; simp [numsOf]
      simp -dsimp only [Vm.E, List.lookup, Nat.reduceAdd, Nat.reduceBEq, Int.reduceBNe, Int.reduceBEq, Bool.true_beq, Bool.false_beq, of3, e0]
      cases c1 : (x == 1)
      · have d1 : ¬ x = 1 := by simpa using c1
        simp -dsimp only [Vm.E, List.lookup, Nat.reduceAdd, Nat.reduceBEq, Int.reduceBNe, Int.reduceBEq, Bool.true_beq, Bool.false_beq]
        cases c2 : (x == 2)
        · have d2 : ¬ x = 2 := by simpa using c2
          rw [if_neg (by simp [d1, d2])] at hq
          simp -dsimp only [Vm.E, List.lookup, Nat.reduceAdd, Nat.reduceBEq, Int.reduceBNe, Int.reduceBEq, Bool.true_beq, Bool.false_beq, Tryz.results100]
          exact hq
        · have d2 : x = 2 := by simpa using c2
          rw [if_pos (.inr d2)] at hq
          simp -dsimp only [Vm.E, List.lookup, Nat.reduceAdd, Nat.reduceBEq, Int.reduceBNe, Int.reduceBEq, Bool.true_beq, Bool.false_beq, es41, as41]
          refine idx_ints (numsOf l 1) 0 (by simp [numsOf]) ?_
          simp -dsimp only [Vm.E, List.lookup, Nat.reduceAdd, Nat.reduceBEq, Int.reduceBNe, Int.reduceBEq, Bool.true_beq, Bool.false_beq, of3, e0, Tryz.results100]
          exact hq
      · have d1 : x = 1 := by simpa using c1
        rw [if_pos (.inl d1)] at hq
        simp -dsimp only [Vm.E, List.lookup, Nat.reduceAdd, Nat.reduceBEq, Int.reduceBNe, Int.reduceBEq, Bool.true_beq, Bool.false_beq, es41, as41]
        refine idx_ints (numsOf l 1) 0 (by simp [numsOf]) ?_
        simp -dsimp only [Vm.E, List.lookup, Nat.reduceAdd, Nat.reduceBEq, Int.reduceBNe, Int.reduceBEq, Bool.true_beq, Bool.false_beq, of3, e0, Tryz.results100]
        exact hq
    · rw [if_neg h8] at hq
      rw [if_neg (by omega), if_pos (by omega)]
      simp -dsimp only [Vm.E, List.lookup, Nat.reduceAdd, Nat.reduceBEq, Int.reduceBNe, Int.reduceBEq, Bool.true_beq, Bool.false_beq, Tryz.results100]
      exact hq
  · have er : readOf f (yrK n) = 0 := by unfold readOf; rw [hf]
    rw [er] at hq
    simp -dsimp only [Vm.E, List.lookup, Nat.reduceAdd, Nat.reduceBEq, Int.reduceBNe, Int.reduceBEq, Bool.true_beq, Bool.false_beq]
    refine call_one (S := unpackSpec) rfl _ GaL.rfl ⟨[], 1, by simp, by unfold I64; omega, rfl, ?_⟩
    unfold unpackRes
    rw [if_neg (by omega), if_pos (by simp)]
    simp -dsimp only [Vm.E, List.lookup, Nat.reduceAdd, Nat.reduceBEq, Int.reduceBNe, Int.reduceBEq, Bool.true_beq, Bool.false_beq, Tryz.results100]
    exact hq

/-- What turning a year leaves. -/
def yrTurn (f : Fun) (n st : Int) : Fun := upd f (yrK n) (some (be 8 st))
theorem right_yr (n st : Int) : rightKV (yrK n) (be 8 st) = true := by simp [rightKV, yrK_length, be_length]
def yrTurnSpec : Vm.Spec := fun args h Q => ∃ V f n st, args = [.agg [.ptr V.iv 0, .v (.int .i64 n)], .v (.int .i64 st)] ∧ I64 st ∧ isView h V f ∧ ∀ h', isView h' V (yrTurn f n st) → Same h h' [V.ic] → Q (.v (.int .i64 0)) h'
theorem does_yrTurn : Does Tryz.prog 101 yrTurnSpec := by
  refine does_of_awp (good_cons does_yrKey (good_cons does_pack (good_cons does_vput good_nil))) Tryz.func101 rfl (by decide +kernel) (by decide +kernel) ?_
  rintro args h Q ⟨V, f, n, st, rfl, hst, hV, hq⟩
  refine ⟨by simp [Tryz.f101], ?_⟩
  rw [awpFunc_some (by rfl)]
  simp -dsimp only [Vm.E, List.lookup, Nat.reduceAdd, Nat.reduceBEq, Int.reduceBNe, Int.reduceBEq, Bool.true_beq, Bool.false_beq, sto_place, sto_box, sto_pp, sto_pc, sto_ptr, sto_cells, stoOk_eq, solid_v, solid_sl, solid_agg, solid_eptr, solid_ptr, solid_mp, solid_clo, cells_eptr, put_nil, put_zero, put_succ, bld_nil, bld_cons, bld_some, bsIx_nil, bsIx_cons, bsAll_nil, bsAll_cons, List.length_cons, List.length_nil, Nat.reduceLeDiff, decide_true, Bool.and_self, Bool.and_true, Bool.true_and, take_sc, take_z, eq_self]
  refine draw_cont [2] (.take 0 (.take 1 (.take 2 (.take 4 (.alt 3 (.alt 5 (.alt 6 (.alt 7 (.alt 8 (.done) .stop) .stop) .stop) .stop) (.alt 5 (.alt 3 (.alt 6 (.alt 7 (.alt 8 (.done) .stop) .stop) .stop) .stop) (.stop))))))) (fun s h' => isView h' V (yrTurn f n st) ∧ Same h h' [V.ic] ∧ s 4 = .v (.int .i64 0)) (by kernel_rfl) (by kernel_rfl) (by kernel_rfl) (by decide) ?_ ?_
  · simp -dsimp only [Vm.E, List.lookup, Nat.reduceAdd, Nat.reduceBEq, Int.reduceBNe, Int.reduceBEq, Bool.true_beq, Bool.false_beq, sto_place, sto_box, sto_pp, sto_pc, sto_ptr, sto_cells, stoOk_eq, solid_v, solid_sl, solid_agg, solid_eptr, solid_ptr, solid_mp, solid_clo, cells_eptr, put_nil, put_zero, put_succ, bld_nil, bld_cons, bld_some, bsIx_nil, bsIx_cons, bsAll_nil, bsAll_cons, List.length_cons, List.length_nil, Nat.reduceLeDiff, decide_true, Bool.and_self, Bool.and_true, Bool.true_and, take_sc, take_z, eq_self, fo146_0, of26, of146]
    refine tree_alt ?_ (tree_alt ?_ trivial)
    · simp -dsimp only [Vm.E, List.lookup, Nat.reduceAdd, Nat.reduceBEq, Int.reduceBNe, Int.reduceBEq, Bool.true_beq, Bool.false_beq, sto_place, sto_box, sto_pp, sto_pc, sto_ptr, sto_cells, stoOk_eq, solid_v, solid_sl, solid_agg, solid_eptr, solid_ptr, solid_mp, solid_clo, cells_eptr, put_nil, put_zero, put_succ, bld_nil, bld_cons, bld_some, bsIx_nil, bsIx_cons, bsAll_nil, bsAll_cons, List.length_cons, List.length_nil, Nat.reduceLeDiff, decide_true, Bool.and_self, Bool.and_true, Bool.true_and, take_sc, take_z, eq_self, es41]
      refine call_one (S := yrKeySpec) rfl _ GaL.rfl ⟨V.iv, n, rfl, ?_⟩
      simp -dsimp only [Vm.E, List.lookup, Nat.reduceAdd, Nat.reduceBEq, Int.reduceBNe, Int.reduceBEq, Bool.true_beq, Bool.false_beq, sto_place, sto_box, sto_pp, sto_pc, sto_ptr, sto_cells, stoOk_eq, solid_v, solid_sl, solid_agg, solid_eptr, solid_ptr, solid_mp, solid_clo, cells_eptr, put_nil, put_zero, put_succ, bld_nil, bld_cons, bld_some, bsIx_nil, bsIx_cons, bsAll_nil, bsAll_cons, List.length_cons, List.length_nil, Nat.reduceLeDiff, decide_true, Bool.and_self, Bool.and_true, Bool.true_and, take_sc, take_z, eq_self, es41]
      refine bs_intro zr3 (by decide) (by decide) rfl rfl (by simp [solid, AV.cells]) ?_
      simp -dsimp only [Vm.E, List.lookup, Nat.reduceAdd, Nat.reduceBEq, Int.reduceBNe, Int.reduceBEq, Bool.true_beq, Bool.false_beq, sto_place, sto_box, sto_pp, sto_pc, sto_ptr, sto_cells, stoOk_eq, solid_v, solid_sl, solid_agg, solid_eptr, solid_ptr, solid_mp, solid_clo, cells_eptr, put_nil, put_zero, put_succ, bld_nil, bld_cons, bld_some, bsIx_nil, bsIx_cons, bsAll_nil, bsAll_cons, List.length_cons, List.length_nil, Nat.reduceLeDiff, decide_true, Bool.and_self, Bool.and_true, Bool.true_and, take_sc, take_z, eq_self, es41]
      refine call_one (S := packSpec) rfl _ GaL.rfl ⟨[st], by simp, by simpa using hst, rfl, ?_⟩
      simp only [packOf_one]
      simp -dsimp only [Vm.E, List.lookup, Nat.reduceAdd, Nat.reduceBEq, Int.reduceBNe, Int.reduceBEq, Bool.true_beq, Bool.false_beq, sto_place, sto_box, sto_pp, sto_pc, sto_ptr, sto_cells, stoOk_eq, solid_v, solid_sl, solid_agg, solid_eptr, solid_ptr, solid_mp, solid_clo, cells_eptr, put_nil, put_zero, put_succ, bld_nil, bld_cons, bld_some, bsIx_nil, bsIx_cons, bsAll_nil, bsAll_cons, List.length_cons, List.length_nil, Nat.reduceLeDiff, decide_true, Bool.and_self, Bool.and_true, Bool.true_and, take_sc, take_z, eq_self, es41]
      refine call_one (S := vputSpec) rfl _ GaL.rfl ⟨V, f, yrK n, be 8 st, rfl, hV, fun _ h' g1 g2 => ?_, fun hc => by rw [right_yr] at hc; cases hc⟩
      simp -dsimp only [Vm.E, List.lookup, Nat.reduceAdd, Nat.reduceBEq, Int.reduceBNe, Int.reduceBEq, Bool.true_beq, Bool.false_beq, sto_place, sto_box, sto_pp, sto_pc, sto_ptr, sto_cells, stoOk_eq, solid_v, solid_sl, solid_agg, solid_eptr, solid_ptr, solid_mp, solid_clo, cells_eptr, put_nil, put_zero, put_succ, bld_nil, bld_cons, bld_some, bsIx_nil, bsIx_cons, bsAll_nil, bsAll_cons, List.length_cons, List.length_nil, Nat.reduceLeDiff, decide_true, Bool.and_self, Bool.and_true, Bool.true_and, take_sc, take_z, eq_self, es41]
      exact ⟨g1, g2, trivial⟩
    · simp -dsimp only [Vm.E, List.lookup, Nat.reduceAdd, Nat.reduceBEq, Int.reduceBNe, Int.reduceBEq, Bool.true_beq, Bool.false_beq, sto_place, sto_box, sto_pp, sto_pc, sto_ptr, sto_cells, stoOk_eq, solid_v, solid_sl, solid_agg, solid_eptr, solid_ptr, solid_mp, solid_clo, cells_eptr, put_nil, put_zero, put_succ, bld_nil, bld_cons, bld_some, bsIx_nil, bsIx_cons, bsAll_nil, bsAll_cons, List.length_cons, List.length_nil, Nat.reduceLeDiff, decide_true, Bool.and_self, Bool.and_true, Bool.true_and, take_sc, take_z, eq_self, es41]
      refine bs_intro zr3 (by decide) (by decide) rfl rfl (by simp [solid, AV.cells]) ?_
      simp -dsimp only [Vm.E, List.lookup, Nat.reduceAdd, Nat.reduceBEq, Int.reduceBNe, Int.reduceBEq, Bool.true_beq, Bool.false_beq, sto_place, sto_box, sto_pp, sto_pc, sto_ptr, sto_cells, stoOk_eq, solid_v, solid_sl, solid_agg, solid_eptr, solid_ptr, solid_mp, solid_clo, cells_eptr, put_nil, put_zero, put_succ, bld_nil, bld_cons, bld_some, bsIx_nil, bsIx_cons, bsAll_nil, bsAll_cons, List.length_cons, List.length_nil, Nat.reduceLeDiff, decide_true, Bool.and_self, Bool.and_true, Bool.true_and, take_sc, take_z, eq_self, es41]
      refine call_one (S := yrKeySpec) rfl _ GaL.rfl ⟨V.iv, n, rfl, ?_⟩
      simp -dsimp only [Vm.E, List.lookup, Nat.reduceAdd, Nat.reduceBEq, Int.reduceBNe, Int.reduceBEq, Bool.true_beq, Bool.false_beq, sto_place, sto_box, sto_pp, sto_pc, sto_ptr, sto_cells, stoOk_eq, solid_v, solid_sl, solid_agg, solid_eptr, solid_ptr, solid_mp, solid_clo, cells_eptr, put_nil, put_zero, put_succ, bld_nil, bld_cons, bld_some, bsIx_nil, bsIx_cons, bsAll_nil, bsAll_cons, List.length_cons, List.length_nil, Nat.reduceLeDiff, decide_true, Bool.and_self, Bool.and_true, Bool.true_and, take_sc, take_z, eq_self, es41]
      refine call_one (S := packSpec) rfl _ GaL.rfl ⟨[st], by simp, by simpa using hst, rfl, ?_⟩
      simp only [packOf_one]
      simp -dsimp only [Vm.E, List.lookup, Nat.reduceAdd, Nat.reduceBEq, Int.reduceBNe, Int.reduceBEq, Bool.true_beq, Bool.false_beq, sto_place, sto_box, sto_pp, sto_pc, sto_ptr, sto_cells, stoOk_eq, solid_v, solid_sl, solid_agg, solid_eptr, solid_ptr, solid_mp, solid_clo, cells_eptr, put_nil, put_zero, put_succ, bld_nil, bld_cons, bld_some, bsIx_nil, bsIx_cons, bsAll_nil, bsAll_cons, List.length_cons, List.length_nil, Nat.reduceLeDiff, decide_true, Bool.and_self, Bool.and_true, Bool.true_and, take_sc, take_z, eq_self, es41]
      refine call_one (S := vputSpec) rfl _ GaL.rfl ⟨V, f, yrK n, be 8 st, rfl, hV, fun _ h' g1 g2 => ?_, fun hc => by rw [right_yr] at hc; cases hc⟩
      simp -dsimp only [Vm.E, List.lookup, Nat.reduceAdd, Nat.reduceBEq, Int.reduceBNe, Int.reduceBEq, Bool.true_beq, Bool.false_beq, sto_place, sto_box, sto_pp, sto_pc, sto_ptr, sto_cells, stoOk_eq, solid_v, solid_sl, solid_agg, solid_eptr, solid_ptr, solid_mp, solid_clo, cells_eptr, put_nil, put_zero, put_succ, bld_nil, bld_cons, bld_some, bsIx_nil, bsIx_cons, bsAll_nil, bsAll_cons, List.length_cons, List.length_nil, Nat.reduceLeDiff, decide_true, Bool.and_self, Bool.and_true, Bool.true_and, take_sc, take_z, eq_self, es41]
      exact ⟨g1, g2, trivial⟩
  · rintro s h' ⟨g1, g2, g3⟩
    simp -dsimp only [Vm.E, List.lookup, Nat.reduceAdd, Nat.reduceBEq, Int.reduceBNe, Int.reduceBEq, Bool.true_beq, Bool.false_beq, g3, Tryz.results101]
    exact hq h' g1 g2

def rightY (n : Int) : Bool := decide (2000 ≤ n) && decide (n ≤ 2099)
def yrRightSpec : Vm.Spec := fun args h Q => ∃ n, args = [.v (.int .i64 n)] ∧ Q (.v (.bool (rightY n))) h
theorem does_yrRight : Does Tryz.prog 48 yrRightSpec := by
  refine does_of_awp good_nil Tryz.func48 rfl (by decide +kernel) (by decide +kernel) ?_
  rintro args h Q ⟨n, rfl, hq⟩
  refine ⟨by simp [Tryz.f48], ?_⟩
  rw [awpFunc_some (by rfl)]
  unfold rightY at hq
  simp -dsimp only [Vm.E, List.lookup, Nat.reduceAdd, Nat.reduceBEq, Int.reduceBNe, Int.reduceBEq, Bool.true_beq, Bool.false_beq]
  cases c1 : decide (2000 ≤ n)
  · rw [c1] at hq
    simp -dsimp only [Vm.E, List.lookup, Nat.reduceAdd, Nat.reduceBEq, Int.reduceBNe, Int.reduceBEq, Bool.true_beq, Bool.false_beq, Tryz.results48]
    exact hq
  · rw [c1] at hq
    simp -dsimp only [Vm.E, List.lookup, Nat.reduceAdd, Nat.reduceBEq, Int.reduceBNe, Int.reduceBEq, Bool.true_beq, Bool.false_beq, Tryz.results48]
    exact hq
def yStateSpec : Vm.Spec := fun args h Q => ∃ V f n, args = [.ptr V.iv 0, .v (.int .i64 n)] ∧ isView h V f ∧ Q (.v (.int .i64 (stateOf f n))) h
theorem does_yState : Does Tryz.prog 31 yStateSpec := by
  refine does_of_awp (good_cons does_yrState good_nil) Tryz.func31 rfl (by decide +kernel) (by decide +kernel) ?_
  rintro args h Q ⟨V, f, n, rfl, hV, hq⟩
  refine ⟨by simp [Tryz.f31], ?_⟩
  rw [awpFunc_some (by rfl)]
  simp -dsimp only [Vm.E, List.lookup, Nat.reduceAdd, Nat.reduceBEq, Int.reduceBNe, Int.reduceBEq, Bool.true_beq, Bool.false_beq, sto_place, sto_box, sto_pp, sto_pc, sto_ptr, sto_cells, stoOk_eq, solid_v, solid_sl, solid_agg, solid_eptr, solid_ptr, solid_mp, solid_clo, cells_eptr, put_nil, put_zero, put_succ, bld_nil, bld_cons, bld_some, bsIx_nil, bsIx_cons, bsAll_nil, bsAll_cons, List.length_cons, List.length_nil, Nat.reduceLeDiff, decide_true, Bool.and_self, Bool.and_true, Bool.true_and, take_sc, take_z, eq_self, bd146]
  refine call_one (S := yrStateSpec) rfl _ GaL.rfl ⟨V, f, n, rfl, hV, ?_⟩
  simp -dsimp only [Vm.E, List.lookup, Nat.reduceAdd, Nat.reduceBEq, Int.reduceBNe, Int.reduceBEq, Bool.true_beq, Bool.false_beq, Tryz.results31]
  exact hq
theorem stateOf_cases (f : Fun) (n : Int) : stateOf f n = 0 ∨ stateOf f n = 1 ∨ stateOf f n = 2 := by unfold stateOf; split <;> omega
def openOf (f : Fun) (n : Int) : Fun × Int := if rightY n then if stateOf f n = 0 then (yrTurn f n 1, 0) else (f, 8) else (f, 1)
def yOpenSpec : Vm.Spec := fun args h Q => ∃ V f n, args = [.ptr V.iv 0, .v (.int .i64 n)] ∧ isView h V f ∧ ∀ h', isView h' V (openOf f n).1 → Same h h' [V.ic] → Q (.v (.int .i64 (openOf f n).2)) h'
theorem does_yOpen : Does Tryz.prog 29 yOpenSpec := by
  refine does_of_awp (good_cons does_yrRight (good_cons does_yrState (good_cons does_yrTurn good_nil))) Tryz.func29 rfl (by decide +kernel) (by decide +kernel) ?_
  rintro args h Q ⟨V, f, n, rfl, hV, hq⟩
  refine ⟨by simp [Tryz.f29], ?_⟩
  rw [awpFunc_some (by rfl)]
  unfold openOf at hq
  simp -dsimp only [Vm.E, List.lookup, Nat.reduceAdd, Nat.reduceBEq, Int.reduceBNe, Int.reduceBEq, Bool.true_beq, Bool.false_beq, sto_place, sto_box, sto_pp, sto_pc, sto_ptr, sto_cells, stoOk_eq, solid_v, solid_sl, solid_agg, solid_eptr, solid_ptr, solid_mp, solid_clo, cells_eptr, put_nil, put_zero, put_succ, bld_nil, bld_cons, bld_some, bsIx_nil, bsIx_cons, bsAll_nil, bsAll_cons, List.length_cons, List.length_nil, Nat.reduceLeDiff, decide_true, Bool.and_self, Bool.and_true, Bool.true_and, take_sc, take_z, eq_self, bd146, al146, sz146]
  refine call_one (S := yrRightSpec) rfl _ GaL.rfl ⟨n, rfl, ?_⟩
  cases c1 : rightY n
  · rw [c1] at hq
    simp -dsimp only [Vm.E, List.lookup, Nat.reduceAdd, Nat.reduceBEq, Int.reduceBNe, Int.reduceBEq, Bool.true_beq, Bool.false_beq, Tryz.results29]
    exact hq h hV (.refl _ _)
  · rw [c1] at hq
    simp -dsimp only [Vm.E, List.lookup, Nat.reduceAdd, Nat.reduceBEq, Int.reduceBNe, Int.reduceBEq, Bool.true_beq, Bool.false_beq, sto_place, sto_box, sto_pp, sto_pc, sto_ptr, sto_cells, stoOk_eq, solid_v, solid_sl, solid_agg, solid_eptr, solid_ptr, solid_mp, solid_clo, cells_eptr, put_nil, put_zero, put_succ, bld_nil, bld_cons, bld_some, bsIx_nil, bsIx_cons, bsAll_nil, bsAll_cons, List.length_cons, List.length_nil, Nat.reduceLeDiff, decide_true, Bool.and_self, Bool.and_true, Bool.true_and, take_sc, take_z, eq_self, of146]
    refine call_one (S := yrStateSpec) rfl _ GaL.rfl ⟨V, f, n, rfl, hV, ?_⟩
    simp -dsimp only [Vm.E, List.lookup, Nat.reduceAdd, Nat.reduceBEq, Int.reduceBNe, Int.reduceBEq, Bool.true_beq, Bool.false_beq]
    cases c2 : (stateOf f n != 0)
    · have d2 : stateOf f n = 0 := by simpa using c2
      rw [if_pos rfl, if_pos d2] at hq
      simp -dsimp only [Vm.E, List.lookup, Nat.reduceAdd, Nat.reduceBEq, Int.reduceBNe, Int.reduceBEq, Bool.true_beq, Bool.false_beq, sto_place, sto_box, sto_pp, sto_pc, sto_ptr, sto_cells, stoOk_eq, solid_v, solid_sl, solid_agg, solid_eptr, solid_ptr, solid_mp, solid_clo, cells_eptr, put_nil, put_zero, put_succ, bld_nil, bld_cons, bld_some, bsIx_nil, bsIx_cons, bsAll_nil, bsAll_cons, List.length_cons, List.length_nil, Nat.reduceLeDiff, decide_true, Bool.and_self, Bool.and_true, Bool.true_and, take_sc, take_z, eq_self, of146]
      refine call_one (S := yrTurnSpec) rfl _ GaL.rfl ⟨V, f, n, 1, rfl, by unfold I64; omega, hV, fun h' g1 g2 => ?_⟩
      simp -dsimp only [Vm.E, List.lookup, Nat.reduceAdd, Nat.reduceBEq, Int.reduceBNe, Int.reduceBEq, Bool.true_beq, Bool.false_beq, Tryz.results29]
      exact hq h' g1 g2
    · have d2 : ¬ stateOf f n = 0 := by simpa using c2
      rw [if_pos rfl, if_neg d2] at hq
      simp -dsimp only [Vm.E, List.lookup, Nat.reduceAdd, Nat.reduceBEq, Int.reduceBNe, Int.reduceBEq, Bool.true_beq, Bool.false_beq, Tryz.results29]
      exact hq h hV (.refl _ _)
def checkY (f : Fun) (n : Int) : Int := if stateOf f n = 1 then 0 else if stateOf f n = 2 then 13 else 7
def yCheckSpec : Vm.Spec := fun args h Q => ∃ V f n, args = [.ptr V.iv 0, .v (.int .i64 n)] ∧ isView h V f ∧ Q (.v (.int .i64 (checkY f n))) h
theorem does_yCheck : Does Tryz.prog 46 yCheckSpec := by
  refine does_of_awp (good_cons does_yState good_nil) Tryz.func46 rfl (by decide +kernel) (by decide +kernel) ?_
  rintro args h Q ⟨V, f, n, rfl, hV, hq⟩
  refine ⟨by simp [Tryz.f46], ?_⟩
  rw [awpFunc_some (by rfl)]
  unfold checkY at hq
  simp -dsimp only [Vm.E, List.lookup, Nat.reduceAdd, Nat.reduceBEq, Int.reduceBNe, Int.reduceBEq, Bool.true_beq, Bool.false_beq, sto_place, sto_box, sto_pp, sto_pc, sto_ptr, sto_cells, stoOk_eq, solid_v, solid_sl, solid_agg, solid_eptr, solid_ptr, solid_mp, solid_clo, cells_eptr, put_nil, put_zero, put_succ, bld_nil, bld_cons, bld_some, bsIx_nil, bsIx_cons, bsAll_nil, bsAll_cons, List.length_cons, List.length_nil, Nat.reduceLeDiff, decide_true, Bool.and_self, Bool.and_true, Bool.true_and, take_sc, take_z, eq_self]
  refine call_one (S := yStateSpec) rfl _ GaL.rfl ⟨V, f, n, rfl, hV, ?_⟩
  rcases stateOf_cases f n with e | e | e <;> rw [e] at hq ⊢ <;> simp -dsimp only [Vm.E, List.lookup, Nat.reduceAdd, Nat.reduceBEq, Int.reduceBNe, Int.reduceBEq, Bool.true_beq, Bool.false_beq, Tryz.results46] <;> exact hq
def shutOf (f : Fun) (n : Int) : Fun × Int := if checkY f n = 0 then (yrTurn f n 2, 0) else (f, checkY f n)
def yShutSpec : Vm.Spec := fun args h Q => ∃ V f n, args = [.ptr V.iv 0, .v (.int .i64 n)] ∧ isView h V f ∧ ∀ h', isView h' V (shutOf f n).1 → Same h h' [V.ic] → Q (.v (.int .i64 (shutOf f n).2)) h'
theorem does_yShut : Does Tryz.prog 30 yShutSpec := by
  refine does_of_awp (good_cons does_yCheck (good_cons does_yrTurn good_nil)) Tryz.func30 rfl (by decide +kernel) (by decide +kernel) ?_
  rintro args h Q ⟨V, f, n, rfl, hV, hq⟩
  refine ⟨by simp [Tryz.f30], ?_⟩
  rw [awpFunc_some (by rfl)]
  unfold shutOf at hq
  simp -dsimp only [Vm.E, List.lookup, Nat.reduceAdd, Nat.reduceBEq, Int.reduceBNe, Int.reduceBEq, Bool.true_beq, Bool.false_beq, sto_place, sto_box, sto_pp, sto_pc, sto_ptr, sto_cells, stoOk_eq, solid_v, solid_sl, solid_agg, solid_eptr, solid_ptr, solid_mp, solid_clo, cells_eptr, put_nil, put_zero, put_succ, bld_nil, bld_cons, bld_some, bsIx_nil, bsIx_cons, bsAll_nil, bsAll_cons, List.length_cons, List.length_nil, Nat.reduceLeDiff, decide_true, Bool.and_self, Bool.and_true, Bool.true_and, take_sc, take_z, eq_self]
  refine call_one (S := yCheckSpec) rfl _ GaL.rfl ⟨V, f, n, rfl, hV, ?_⟩
  simp -dsimp only [Vm.E, List.lookup, Nat.reduceAdd, Nat.reduceBEq, Int.reduceBNe, Int.reduceBEq, Bool.true_beq, Bool.false_beq]
  cases c1 : (checkY f n != 0)
  · have d1 : checkY f n = 0 := by simpa using c1
    rw [if_pos d1] at hq
    simp -dsimp only [Vm.E, List.lookup, Nat.reduceAdd, Nat.reduceBEq, Int.reduceBNe, Int.reduceBEq, Bool.true_beq, Bool.false_beq, sto_place, sto_box, sto_pp, sto_pc, sto_ptr, sto_cells, stoOk_eq, solid_v, solid_sl, solid_agg, solid_eptr, solid_ptr, solid_mp, solid_clo, cells_eptr, put_nil, put_zero, put_succ, bld_nil, bld_cons, bld_some, bsIx_nil, bsIx_cons, bsAll_nil, bsAll_cons, List.length_cons, List.length_nil, Nat.reduceLeDiff, decide_true, Bool.and_self, Bool.and_true, Bool.true_and, take_sc, take_z, eq_self, bd146]
    refine call_one (S := yrTurnSpec) rfl _ GaL.rfl ⟨V, f, n, 2, rfl, by unfold I64; omega, hV, fun h' g1 g2 => ?_⟩
    simp -dsimp only [Vm.E, List.lookup, Nat.reduceAdd, Nat.reduceBEq, Int.reduceBNe, Int.reduceBEq, Bool.true_beq, Bool.false_beq, Tryz.results30]
    exact hq h' g1 g2
  · have d1 : ¬ checkY f n = 0 := by simpa using c1
    rw [if_neg d1] at hq
    simp -dsimp only [Vm.E, List.lookup, Nat.reduceAdd, Nat.reduceBEq, Int.reduceBNe, Int.reduceBEq, Bool.true_beq, Bool.false_beq, Tryz.results30]
    exact hq h hV (.refl _ _)

end Go.Proofs.Lx
